/- Written by give.py, a program of this session, that runs the kit's print and lays contracts proved by hand beside it. -/
import Derived.Test.YtejecjjimggjeaaGFnTornLogx0
import Derived.Test.YtejecjjimggjeaaGFnTornLogx1
import Derived.Test.YtejecjjimggjeaaGFnTornLogx2
namespace Go.Proofs.Ytejecjjimggjeaa.GFnTornLog
open Go.RowKit Go.Proofs.YtejecjjimggjeaaW.PrintWords Go.Proofs.YtejecjjimggjeaaW.PrintLast Go.Proofs.YtejecjjimggjeaaW.PrintMore
attribute [local go_sem] max2_int min2_int max_two min_two max_three min_three max_four min_four
attribute [local go_sem high] Go.Proofs.YtejecjjimggjeaaH.str_leq Go.Proofs.YtejecjjimggjeaaH.str_geq Go.Proofs.YtejecjjimggjeaaH.str_gtr   -- for this text's walks alone
set_option linter.unusedVariables false
set_option linter.unusedSimpArgs false

theorem cut_len_ (l : List Int) (a b : Int) (h : b ≤ (l.length : Int)) : ((l.take b.toNat).drop a.toNat).length = b.toNat - a.toNat := by
 rw [List.length_drop, List.length_take]
 omega
theorem frame_bytes {L r : List Int} (h : impl_Frame.f L = some r) : impl_Frame.f (bytesOf (strOfNums L)) = some r := by
 have hl : (bytesOf (strOfNums L)).length = L.length := by rw [bytesOf_length, strOfNums_size]
 unfold impl_Frame.f at h ⊢
 rw [hl]
 by_cases h0 : (L.length : Int) = 0
 ·rw [if_pos h0] at h ⊢; exact h
 ·rw [if_neg h0] at h ⊢
  by_cases h1 : (L.length : Int) > 2000
  ·rw [if_pos h1] at h ⊢; exact h
  ·rw [if_neg h1] at h ⊢
   have hok : okBytes L = true := by
    obtain ⟨t, ht, _⟩ := Option.bind_eq_some_iff.mp h
    unfold impl_Pack.f at ht
    split at ht
    ·rename_i hh; exact hh.1
    ·cases ht
   have he : bytesOf (strOfNums L) = L := by
    unfold bytesOf
    rw [strOfNums_data, List.map_map]
    refine (List.map_congr_left (g := id) (fun x hx => ?_)).trans (List.map_id _)
    have hb := of_decide_eq_true (List.all_eq_true.mp hok x hx)
    show (((UInt8.ofNat x.toNat).toNat : Nat) : Int) = x
    rw [UInt8.toNat_ofNat']
    show (((x.toNat % 256 : Nat)) : Int) = x
    omega
   rw [he]; exact h
theorem frame_conv_calls (W : World) (b : Nat) (hwb : W.heap.size = b) (L r : List Int) (hm : (strOfNums L).size ≤ 9223372036854775807) (h : impl_Frame.f L = some r) : Calls Try.prog 24 #[.slice (some ⟨b, 0, none⟩) (strOfNums L).size (grownCap W (strOfNums L).size 0 5)] (Lib.bytesWorld W 5 (strOfNums L)) fun e w' => ∃ v0_ : Value, e = .returned (v0_) ∧ Kd.R (Kd.int .u8) 5 w' W.heap.size (fun _ => True) v0_ r ∧ Below W.heap.size W w' := by
 subst hwb
 have hl : (bytesOf (strOfNums L)).length = (strOfNums L).size := bytesOf_length _
 by_cases hs : (strOfNums L).size ≤ 9223372036854775807
 ·have h1 := Kd.C_of_reads (enc := Value.int .u8) (d := (0 : Int)) (h1 := fun _ => rfl) (bytes_reads W 5 (strOfNums L) hs)
  have hb := bytes_below (Below.refl W.heap.size W) (Nat.le_refl _) 5 (strOfNums L)
  have := impl_Frame.calls (some ⟨W.heap.size, 0, none⟩) (grownCap W (strOfNums L).size 0 5) (bytesOf (strOfNums L)) r (Lib.bytesWorld W 5 (strOfNums L)) (by rw [hl]; exact h1) (by rw [hl]; exact grownCap_ge _ _ _ _) (frame_bytes h)
  rw [hl] at this
  refine this.mono fun e w' ⟨v, he, hr, hb2⟩ => ⟨v, he, Kd.R_lower hr (by rw [Lib.bytesWorld_size]; omega), zh hb hb2⟩
 ·exact absurd hm hs
mutual
def laws_FnTornLog.j0 : Nat → List Int → List Int → Bool → Option (Bool)
 | 0, _, _, _ => none
 | k + 1, x0, x1, x28 => if x28 = true then (some true) else (laws_FnTornLog.l0 k x0 x1 (([] : List ByteArray)) (([] : List Int)) (([] : List Int)) 0)
def laws_FnTornLog.l0 : Nat → List Int → List Int → List ByteArray → List Int → List Int → Int → Option (Bool)
 | 0, _, _, _, _, _, _ => none
 | k + 1, x0, x1, x5, x6, x7, x8 => if x8 < (x0.length : Int) then (laws_FnTornLog.j2 k x0 x1 x5 x6 x7 x8 (decide ((x5.length : Int) < 30))) else (laws_FnTornLog.j2 k x0 x1 x5 x6 x7 x8 false)
def laws_FnTornLog.j2 : Nat → List Int → List Int → List ByteArray → List Int → List Int → Int → Bool → Option (Bool)
 | 0, _, _, _, _, _, _, _ => none
 | k + 1, x0, x1, x5, x6, x7, x8, x40 => if x40 = true then ((laws_lwAt.f x1 (x5.length : Int) 20).bind fun t120 => (if (wrap64 (x8 + (wrap64 (1 + t120)))) > (x0.length : Int) then (if 0 ≤ x8 then (if x8 ≤ (wrap64 (x8 + (wrap64 ((x0.length : Int) - x8)))) then (if (wrap64 (x8 + (wrap64 ((x0.length : Int) - x8)))) ≤ (x0.length : Int) then ((impl_Frame.f ((x0.take ((wrap64 (x8 + (wrap64 ((x0.length : Int) - x8)))) : Int).toNat).drop (x8 : Int).toNat)).bind fun t122 => (if (t122.length : Int) = (wrap64 (2 + (wrap64 (Int.tdiv (wrap64 ((wrap64 (8 * (wrap64 ((x0.length : Int) - x8)))) + 6)) 7)))) then (if x5.length < 8796093022208 then (if x6.length + t122.length < 140737488355328 then ((some (x6 ++ t122 : List Int)).bind fun y129 => (if x7.length < 17592186044416 then (laws_FnTornLog.l0 k x0 x1 (x5 ++ [strOfNums ((x0.take ((wrap64 (x8 + (wrap64 ((x0.length : Int) - x8)))) : Int).toNat).drop (x8 : Int).toNat)]) y129 (x7 ++ [(y129.length : Int)]) (wrap64 (x8 + (wrap64 ((x0.length : Int) - x8))))) else (none))) else (none)) else (none)) else none)) else (none)) else (none)) else (none)) else (if 0 ≤ x8 then (if x8 ≤ (wrap64 (x8 + (wrap64 (1 + t120)))) then (if (wrap64 (x8 + (wrap64 (1 + t120)))) ≤ (x0.length : Int) then ((impl_Frame.f ((x0.take ((wrap64 (x8 + (wrap64 (1 + t120)))) : Int).toNat).drop (x8 : Int).toNat)).bind fun t136 => (if (t136.length : Int) = (wrap64 (2 + (wrap64 (Int.tdiv (wrap64 ((wrap64 (8 * (wrap64 (1 + t120)))) + 6)) 7)))) then (if x5.length < 8796093022208 then (if x6.length + t136.length < 140737488355328 then ((some (x6 ++ t136 : List Int)).bind fun y143 => (if x7.length < 17592186044416 then (laws_FnTornLog.l0 k x0 x1 (x5 ++ [strOfNums ((x0.take ((wrap64 (x8 + (wrap64 (1 + t120)))) : Int).toNat).drop (x8 : Int).toNat)]) y143 (x7 ++ [(y143.length : Int)]) (wrap64 (x8 + (wrap64 (1 + t120))))) else (none))) else (none)) else (none)) else none)) else (none)) else (none)) else (none)))) else (laws_FnTornLog.l1 k x1 x5 x6 x7 0)
def laws_FnTornLog.l1 : Nat → List Int → List ByteArray → List Int → List Int → Int → Option (Bool)
 | 0, _, _, _, _, _ => none
 | k + 1, x1, x5, x6, x7, x11 => if x11 < 40 then (if x6.length < 140737488355328 then (laws_FnTornLog.l1 k x1 x5 (x6 ++ [0]) x7 (wrap64 (x11 + 1))) else (none)) else (laws_FnTornLog.l2 k x1 x5 x6 x7 (x5.length : Int) 0)
def laws_FnTornLog.l2 : Nat → List Int → List ByteArray → List Int → List Int → Int → Int → Option (Bool)
 | 0, _, _, _, _, _, _ => none
 | k + 1, x1, x5, x6, x7, x12, x13 => if x13 < 3 then ((laws_lwAt.f x1 (wrap64 (31 + (wrap64 (2 * x13)))) 256).bind fun t152 => ((laws_lwAt.f x1 (wrap64 (32 + (wrap64 (2 * x13)))) 30).bind fun t153 => (laws_FnTornLog.l3 k x1 x5 x6 x7 x12 x13 (wrap64 (Int.tdiv (wrap64 (t152 * (x6.length : Int))) 200)) t153 (wrap64 (Int.tdiv (wrap64 (t152 * (x6.length : Int))) 200))))) else (if x12 > 0 then (if 0 ≤ (wrap64 (x12 - 1)) then (if (wrap64 (x12 - 1)) < (x7.length : Int) then (laws_FnTornLog.j8 k x5 x6 x12 (rd x7 (wrap64 (x12 - 1)))) else (none)) else (none)) else (laws_FnTornLog.j8 k x5 x6 x12 0))
def laws_FnTornLog.l3 : Nat → List Int → List ByteArray → List Int → List Int → Int → Int → Int → Int → Int → Option (Bool)
 | 0, _, _, _, _, _, _, _, _, _ => none
 | k + 1, x1, x5, x6, x7, x12, x13, x14, x15, x16 => if x16 < (wrap64 (x14 + x15)) then (laws_FnTornLog.j6 k x1 x5 x6 x7 x12 x13 x14 x15 x16 (decide (x16 < (x6.length : Int)))) else (laws_FnTornLog.j6 k x1 x5 x6 x7 x12 x13 x14 x15 x16 false)
def laws_FnTornLog.j6 : Nat → List Int → List ByteArray → List Int → List Int → Int → Int → Int → Int → Int → Bool → Option (Bool)
 | 0, _, _, _, _, _, _, _, _, _, _ => none
 | k + 1, x1, x5, x6, x7, x12, x13, x14, x15, x16, x132 => if x132 = true then (if 0 ≤ x16 then (if x16 < (x6.length : Int) then (laws_FnTornLog.l4 k x1 x5 (x6.set (x16 : Int).toNat 0) x7 x12 x13 x14 x15 x16 (wrap64 ((x5.length : Int) - 1))) else (none)) else (none)) else (laws_FnTornLog.l2 k x1 x5 x6 x7 x12 (wrap64 (x13 + 1)))
def laws_FnTornLog.l4 : Nat → List Int → List ByteArray → List Int → List Int → Int → Int → Int → Int → Int → Int → Option (Bool)
 | 0, _, _, _, _, _, _, _, _, _, _ => none
 | k + 1, x1, x5, x6, x7, x12, x13, x14, x15, x16, x17 => if x17 ≥ 0 then (if 0 ≤ x17 then (if x17 < (x7.length : Int) then (if x16 < (rd x7 x17) then (if x17 = 0 then (if x17 < x12 then (laws_FnTornLog.l4 k x1 x5 x6 x7 x17 x13 x14 x15 x16 (wrap64 (x17 - 1))) else (laws_FnTornLog.l4 k x1 x5 x6 x7 x12 x13 x14 x15 x16 (wrap64 (x17 - 1)))) else (if 0 ≤ (wrap64 (x17 - 1)) then (if (wrap64 (x17 - 1)) < (x7.length : Int) then (if x16 ≥ (rd x7 (wrap64 (x17 - 1))) then (if x17 < x12 then (laws_FnTornLog.l4 k x1 x5 x6 x7 x17 x13 x14 x15 x16 (wrap64 (x17 - 1))) else (laws_FnTornLog.l4 k x1 x5 x6 x7 x12 x13 x14 x15 x16 (wrap64 (x17 - 1)))) else (laws_FnTornLog.l4 k x1 x5 x6 x7 x12 x13 x14 x15 x16 (wrap64 (x17 - 1)))) else (none)) else (none))) else (laws_FnTornLog.l4 k x1 x5 x6 x7 x12 x13 x14 x15 x16 (wrap64 (x17 - 1)))) else (none)) else (none)) else (laws_FnTornLog.l3 k x1 x5 x6 x7 x12 x13 x14 x15 (wrap64 (x16 + 1)))
def laws_FnTornLog.j8 : Nat → List ByteArray → List Int → Int → Int → Option (Bool)
 | 0, _, _, _, _ => none
 | k + 1, x5, x6, x12, x18 => (impl_ScanFrames.f x6).bind fun bt158 => (if (bt158.1.length : Int) = x12 then (laws_FnTornLog.j9 k x5 x12 (bt158.2 != x18) bt158.1 bt158.2) else (laws_FnTornLog.j9 k x5 x12 true bt158.1 bt158.2))
def laws_FnTornLog.j9 : Nat → List ByteArray → Int → Bool → List (S50) → Int → Option (Bool)
 | 0, _, _, _, _, _ => none
 | k + 1, x5, x12, x189, x163000, x163001 => if x189 = true then none else (laws_FnTornLog.l5 k x5 x12 0 x163000 x163001)
def laws_FnTornLog.l5 : Nat → List ByteArray → Int → Int → List (S50) → Int → Option (Bool)
 | 0, _, _, _, _, _ => none
 | k + 1, x5, x12, x20, x163000, x163001 => if x20 < x12 then (if 0 ≤ x20 then (if x20 < (x163000.length : Int) then (if x20 < (x5.length : Int) then (if (strOfNums ((rd_T50 x163000 x20).f0)).toList = (rdOf ByteArray.empty x5 x20).toList then (laws_FnTornLog.l5 k x5 x12 (wrap64 (x20 + 1)) x163000 x163001) else none) else (none)) else (none)) else (none)) else ((impl_Frame.f (([7] : List Int))).bind fun t168 => (some ((t168.length : Int) == 4)))
end
def laws_FnTornLog.f (k : Nat) (l0 : List Int) (l1 : List Int) : Option (Bool) := if (l0.length : Int) > 1048576 then (laws_FnTornLog.j0 k l0 l1 true) else (laws_FnTornLog.j0 k l0 l1 (decide ((l1.length : Int) > 1048576)))
theorem laws_FnTornLog.mono_l : ∀ k, (∀ y0 y1 y2, LeO (laws_FnTornLog.j0 k y0 y1 y2) (laws_FnTornLog.j0 (k + 1) y0 y1 y2)) ∧ (∀ y0 y1 y2 y3 y4 y5, LeO (laws_FnTornLog.l0 k y0 y1 y2 y3 y4 y5) (laws_FnTornLog.l0 (k + 1) y0 y1 y2 y3 y4 y5)) ∧ (∀ y0 y1 y2 y3 y4 y5 y6, LeO (laws_FnTornLog.j2 k y0 y1 y2 y3 y4 y5 y6) (laws_FnTornLog.j2 (k + 1) y0 y1 y2 y3 y4 y5 y6)) ∧ (∀ y0 y1 y2 y3 y4, LeO (laws_FnTornLog.l1 k y0 y1 y2 y3 y4) (laws_FnTornLog.l1 (k + 1) y0 y1 y2 y3 y4)) ∧ (∀ y0 y1 y2 y3 y4 y5, LeO (laws_FnTornLog.l2 k y0 y1 y2 y3 y4 y5) (laws_FnTornLog.l2 (k + 1) y0 y1 y2 y3 y4 y5)) ∧ (∀ y0 y1 y2 y3 y4 y5 y6 y7 y8, LeO (laws_FnTornLog.l3 k y0 y1 y2 y3 y4 y5 y6 y7 y8) (laws_FnTornLog.l3 (k + 1) y0 y1 y2 y3 y4 y5 y6 y7 y8)) ∧ (∀ y0 y1 y2 y3 y4 y5 y6 y7 y8 y9, LeO (laws_FnTornLog.j6 k y0 y1 y2 y3 y4 y5 y6 y7 y8 y9) (laws_FnTornLog.j6 (k + 1) y0 y1 y2 y3 y4 y5 y6 y7 y8 y9)) ∧ (∀ y0 y1 y2 y3 y4 y5 y6 y7 y8 y9, LeO (laws_FnTornLog.l4 k y0 y1 y2 y3 y4 y5 y6 y7 y8 y9) (laws_FnTornLog.l4 (k + 1) y0 y1 y2 y3 y4 y5 y6 y7 y8 y9)) ∧ (∀ y0 y1 y2 y3, LeO (laws_FnTornLog.j8 k y0 y1 y2 y3) (laws_FnTornLog.j8 (k + 1) y0 y1 y2 y3)) ∧ (∀ y0 y1 y2 y3 y4, LeO (laws_FnTornLog.j9 k y0 y1 y2 y3 y4) (laws_FnTornLog.j9 (k + 1) y0 y1 y2 y3 y4)) ∧ (∀ y0 y1 y2 y3 y4, LeO (laws_FnTornLog.l5 k y0 y1 y2 y3 y4) (laws_FnTornLog.l5 (k + 1) y0 y1 y2 y3 y4))
 | 0 => ⟨fun _ _ _ r h => by simp [laws_FnTornLog.j0] at h, fun _ _ _ _ _ _ r h => by simp [laws_FnTornLog.l0] at h, fun _ _ _ _ _ _ _ r h => by simp [laws_FnTornLog.j2] at h, fun _ _ _ _ _ r h => by simp [laws_FnTornLog.l1] at h, fun _ _ _ _ _ _ r h => by simp [laws_FnTornLog.l2] at h, fun _ _ _ _ _ _ _ _ _ r h => by simp [laws_FnTornLog.l3] at h, fun _ _ _ _ _ _ _ _ _ _ r h => by simp [laws_FnTornLog.j6] at h, fun _ _ _ _ _ _ _ _ _ _ r h => by simp [laws_FnTornLog.l4] at h, fun _ _ _ _ r h => by simp [laws_FnTornLog.j8] at h, fun _ _ _ _ _ r h => by simp [laws_FnTornLog.j9] at h, fun _ _ _ _ _ r h => by simp [laws_FnTornLog.l5] at h⟩
 | k + 1 => by
  obtain ⟨ih0, ih1, ih2, ih3, ih4, ih5, ih6, ih7, ih8, ih9, ih10⟩ := laws_FnTornLog.mono_l k
  refine ⟨?_, ?_, ?_, ?_, ?_, ?_, ?_, ?_, ?_, ?_, ?_⟩
  ·intro y0 y1 y2
   unfold laws_FnTornLog.j0
   repeat' first
   | (with_reducible exact ih0 _ _ _)
   | (with_reducible exact ih1 _ _ _ _ _ _)
   | (with_reducible exact ih2 _ _ _ _ _ _ _)
   | (with_reducible exact ih3 _ _ _ _ _)
   | (with_reducible exact ih4 _ _ _ _ _ _)
   | (with_reducible exact ih5 _ _ _ _ _ _ _ _ _)
   | (with_reducible exact ih6 _ _ _ _ _ _ _ _ _ _)
   | (with_reducible exact ih7 _ _ _ _ _ _ _ _ _ _)
   | (with_reducible exact ih8 _ _ _ _)
   | (with_reducible exact ih9 _ _ _ _ _)
   | (with_reducible exact ih10 _ _ _ _ _)
   | (with_reducible exact LeO.refl _)
   | (with_reducible exact LeO.none _)
   | (with_reducible refine LeO.ite ?_ ?_)
   | (with_reducible refine LeO.bind ?_ (fun _ => ?_))
   | exact ih0 _ _ _
   | exact ih1 _ _ _ _ _ _
   | exact ih2 _ _ _ _ _ _ _
   | exact ih3 _ _ _ _ _
   | exact ih4 _ _ _ _ _ _
   | exact ih5 _ _ _ _ _ _ _ _ _
   | exact ih6 _ _ _ _ _ _ _ _ _ _
   | exact ih7 _ _ _ _ _ _ _ _ _ _
   | exact ih8 _ _ _ _
   | exact ih9 _ _ _ _ _
   | exact ih10 _ _ _ _ _
   | exact LeO.none _
   | refine LeO.ite ?_ ?_
   | refine LeO.bind ?_ (fun _ => ?_)
  ·intro y0 y1 y2 y3 y4 y5
   unfold laws_FnTornLog.l0
   repeat' first
   | (with_reducible exact ih0 _ _ _)
   | (with_reducible exact ih1 _ _ _ _ _ _)
   | (with_reducible exact ih2 _ _ _ _ _ _ _)
   | (with_reducible exact ih3 _ _ _ _ _)
   | (with_reducible exact ih4 _ _ _ _ _ _)
   | (with_reducible exact ih5 _ _ _ _ _ _ _ _ _)
   | (with_reducible exact ih6 _ _ _ _ _ _ _ _ _ _)
   | (with_reducible exact ih7 _ _ _ _ _ _ _ _ _ _)
   | (with_reducible exact ih8 _ _ _ _)
   | (with_reducible exact ih9 _ _ _ _ _)
   | (with_reducible exact ih10 _ _ _ _ _)
   | (with_reducible exact LeO.refl _)
   | (with_reducible exact LeO.none _)
   | (with_reducible refine LeO.ite ?_ ?_)
   | (with_reducible refine LeO.bind ?_ (fun _ => ?_))
   | exact ih0 _ _ _
   | exact ih1 _ _ _ _ _ _
   | exact ih2 _ _ _ _ _ _ _
   | exact ih3 _ _ _ _ _
   | exact ih4 _ _ _ _ _ _
   | exact ih5 _ _ _ _ _ _ _ _ _
   | exact ih6 _ _ _ _ _ _ _ _ _ _
   | exact ih7 _ _ _ _ _ _ _ _ _ _
   | exact ih8 _ _ _ _
   | exact ih9 _ _ _ _ _
   | exact ih10 _ _ _ _ _
   | exact LeO.none _
   | refine LeO.ite ?_ ?_
   | refine LeO.bind ?_ (fun _ => ?_)
  ·intro y0 y1 y2 y3 y4 y5 y6
   unfold laws_FnTornLog.j2
   repeat' first
   | (with_reducible exact ih0 _ _ _)
   | (with_reducible exact ih1 _ _ _ _ _ _)
   | (with_reducible exact ih2 _ _ _ _ _ _ _)
   | (with_reducible exact ih3 _ _ _ _ _)
   | (with_reducible exact ih4 _ _ _ _ _ _)
   | (with_reducible exact ih5 _ _ _ _ _ _ _ _ _)
   | (with_reducible exact ih6 _ _ _ _ _ _ _ _ _ _)
   | (with_reducible exact ih7 _ _ _ _ _ _ _ _ _ _)
   | (with_reducible exact ih8 _ _ _ _)
   | (with_reducible exact ih9 _ _ _ _ _)
   | (with_reducible exact ih10 _ _ _ _ _)
   | (with_reducible exact LeO.refl _)
   | (with_reducible exact LeO.none _)
   | (with_reducible refine LeO.ite ?_ ?_)
   | (with_reducible refine LeO.bind ?_ (fun _ => ?_))
   | exact ih0 _ _ _
   | exact ih1 _ _ _ _ _ _
   | exact ih2 _ _ _ _ _ _ _
   | exact ih3 _ _ _ _ _
   | exact ih4 _ _ _ _ _ _
   | exact ih5 _ _ _ _ _ _ _ _ _
   | exact ih6 _ _ _ _ _ _ _ _ _ _
   | exact ih7 _ _ _ _ _ _ _ _ _ _
   | exact ih8 _ _ _ _
   | exact ih9 _ _ _ _ _
   | exact ih10 _ _ _ _ _
   | exact LeO.none _
   | refine LeO.ite ?_ ?_
   | refine LeO.bind ?_ (fun _ => ?_)
  ·intro y0 y1 y2 y3 y4
   unfold laws_FnTornLog.l1
   repeat' first
   | (with_reducible exact ih0 _ _ _)
   | (with_reducible exact ih1 _ _ _ _ _ _)
   | (with_reducible exact ih2 _ _ _ _ _ _ _)
   | (with_reducible exact ih3 _ _ _ _ _)
   | (with_reducible exact ih4 _ _ _ _ _ _)
   | (with_reducible exact ih5 _ _ _ _ _ _ _ _ _)
   | (with_reducible exact ih6 _ _ _ _ _ _ _ _ _ _)
   | (with_reducible exact ih7 _ _ _ _ _ _ _ _ _ _)
   | (with_reducible exact ih8 _ _ _ _)
   | (with_reducible exact ih9 _ _ _ _ _)
   | (with_reducible exact ih10 _ _ _ _ _)
   | (with_reducible exact LeO.refl _)
   | (with_reducible exact LeO.none _)
   | (with_reducible refine LeO.ite ?_ ?_)
   | (with_reducible refine LeO.bind ?_ (fun _ => ?_))
   | exact ih0 _ _ _
   | exact ih1 _ _ _ _ _ _
   | exact ih2 _ _ _ _ _ _ _
   | exact ih3 _ _ _ _ _
   | exact ih4 _ _ _ _ _ _
   | exact ih5 _ _ _ _ _ _ _ _ _
   | exact ih6 _ _ _ _ _ _ _ _ _ _
   | exact ih7 _ _ _ _ _ _ _ _ _ _
   | exact ih8 _ _ _ _
   | exact ih9 _ _ _ _ _
   | exact ih10 _ _ _ _ _
   | exact LeO.none _
   | refine LeO.ite ?_ ?_
   | refine LeO.bind ?_ (fun _ => ?_)
  ·intro y0 y1 y2 y3 y4 y5
   unfold laws_FnTornLog.l2
   repeat' first
   | (with_reducible exact ih0 _ _ _)
   | (with_reducible exact ih1 _ _ _ _ _ _)
   | (with_reducible exact ih2 _ _ _ _ _ _ _)
   | (with_reducible exact ih3 _ _ _ _ _)
   | (with_reducible exact ih4 _ _ _ _ _ _)
   | (with_reducible exact ih5 _ _ _ _ _ _ _ _ _)
   | (with_reducible exact ih6 _ _ _ _ _ _ _ _ _ _)
   | (with_reducible exact ih7 _ _ _ _ _ _ _ _ _ _)
   | (with_reducible exact ih8 _ _ _ _)
   | (with_reducible exact ih9 _ _ _ _ _)
   | (with_reducible exact ih10 _ _ _ _ _)
   | (with_reducible exact LeO.refl _)
   | (with_reducible exact LeO.none _)
   | (with_reducible refine LeO.ite ?_ ?_)
   | (with_reducible refine LeO.bind ?_ (fun _ => ?_))
   | exact ih0 _ _ _
   | exact ih1 _ _ _ _ _ _
   | exact ih2 _ _ _ _ _ _ _
   | exact ih3 _ _ _ _ _
   | exact ih4 _ _ _ _ _ _
   | exact ih5 _ _ _ _ _ _ _ _ _
   | exact ih6 _ _ _ _ _ _ _ _ _ _
   | exact ih7 _ _ _ _ _ _ _ _ _ _
   | exact ih8 _ _ _ _
   | exact ih9 _ _ _ _ _
   | exact ih10 _ _ _ _ _
   | exact LeO.none _
   | refine LeO.ite ?_ ?_
   | refine LeO.bind ?_ (fun _ => ?_)
  ·intro y0 y1 y2 y3 y4 y5 y6 y7 y8
   unfold laws_FnTornLog.l3
   repeat' first
   | (with_reducible exact ih0 _ _ _)
   | (with_reducible exact ih1 _ _ _ _ _ _)
   | (with_reducible exact ih2 _ _ _ _ _ _ _)
   | (with_reducible exact ih3 _ _ _ _ _)
   | (with_reducible exact ih4 _ _ _ _ _ _)
   | (with_reducible exact ih5 _ _ _ _ _ _ _ _ _)
   | (with_reducible exact ih6 _ _ _ _ _ _ _ _ _ _)
   | (with_reducible exact ih7 _ _ _ _ _ _ _ _ _ _)
   | (with_reducible exact ih8 _ _ _ _)
   | (with_reducible exact ih9 _ _ _ _ _)
   | (with_reducible exact ih10 _ _ _ _ _)
   | (with_reducible exact LeO.refl _)
   | (with_reducible exact LeO.none _)
   | (with_reducible refine LeO.ite ?_ ?_)
   | (with_reducible refine LeO.bind ?_ (fun _ => ?_))
   | exact ih0 _ _ _
   | exact ih1 _ _ _ _ _ _
   | exact ih2 _ _ _ _ _ _ _
   | exact ih3 _ _ _ _ _
   | exact ih4 _ _ _ _ _ _
   | exact ih5 _ _ _ _ _ _ _ _ _
   | exact ih6 _ _ _ _ _ _ _ _ _ _
   | exact ih7 _ _ _ _ _ _ _ _ _ _
   | exact ih8 _ _ _ _
   | exact ih9 _ _ _ _ _
   | exact ih10 _ _ _ _ _
   | exact LeO.none _
   | refine LeO.ite ?_ ?_
   | refine LeO.bind ?_ (fun _ => ?_)
  ·intro y0 y1 y2 y3 y4 y5 y6 y7 y8 y9
   unfold laws_FnTornLog.j6
   repeat' first
   | (with_reducible exact ih0 _ _ _)
   | (with_reducible exact ih1 _ _ _ _ _ _)
   | (with_reducible exact ih2 _ _ _ _ _ _ _)
   | (with_reducible exact ih3 _ _ _ _ _)
   | (with_reducible exact ih4 _ _ _ _ _ _)
   | (with_reducible exact ih5 _ _ _ _ _ _ _ _ _)
   | (with_reducible exact ih6 _ _ _ _ _ _ _ _ _ _)
   | (with_reducible exact ih7 _ _ _ _ _ _ _ _ _ _)
   | (with_reducible exact ih8 _ _ _ _)
   | (with_reducible exact ih9 _ _ _ _ _)
   | (with_reducible exact ih10 _ _ _ _ _)
   | (with_reducible exact LeO.refl _)
   | (with_reducible exact LeO.none _)
   | (with_reducible refine LeO.ite ?_ ?_)
   | (with_reducible refine LeO.bind ?_ (fun _ => ?_))
   | exact ih0 _ _ _
   | exact ih1 _ _ _ _ _ _
   | exact ih2 _ _ _ _ _ _ _
   | exact ih3 _ _ _ _ _
   | exact ih4 _ _ _ _ _ _
   | exact ih5 _ _ _ _ _ _ _ _ _
   | exact ih6 _ _ _ _ _ _ _ _ _ _
   | exact ih7 _ _ _ _ _ _ _ _ _ _
   | exact ih8 _ _ _ _
   | exact ih9 _ _ _ _ _
   | exact ih10 _ _ _ _ _
   | exact LeO.none _
   | refine LeO.ite ?_ ?_
   | refine LeO.bind ?_ (fun _ => ?_)
  ·intro y0 y1 y2 y3 y4 y5 y6 y7 y8 y9
   unfold laws_FnTornLog.l4
   repeat' first
   | (with_reducible exact ih0 _ _ _)
   | (with_reducible exact ih1 _ _ _ _ _ _)
   | (with_reducible exact ih2 _ _ _ _ _ _ _)
   | (with_reducible exact ih3 _ _ _ _ _)
   | (with_reducible exact ih4 _ _ _ _ _ _)
   | (with_reducible exact ih5 _ _ _ _ _ _ _ _ _)
   | (with_reducible exact ih6 _ _ _ _ _ _ _ _ _ _)
   | (with_reducible exact ih7 _ _ _ _ _ _ _ _ _ _)
   | (with_reducible exact ih8 _ _ _ _)
   | (with_reducible exact ih9 _ _ _ _ _)
   | (with_reducible exact ih10 _ _ _ _ _)
   | (with_reducible exact LeO.refl _)
   | (with_reducible exact LeO.none _)
   | (with_reducible refine LeO.ite ?_ ?_)
   | (with_reducible refine LeO.bind ?_ (fun _ => ?_))
   | exact ih0 _ _ _
   | exact ih1 _ _ _ _ _ _
   | exact ih2 _ _ _ _ _ _ _
   | exact ih3 _ _ _ _ _
   | exact ih4 _ _ _ _ _ _
   | exact ih5 _ _ _ _ _ _ _ _ _
   | exact ih6 _ _ _ _ _ _ _ _ _ _
   | exact ih7 _ _ _ _ _ _ _ _ _ _
   | exact ih8 _ _ _ _
   | exact ih9 _ _ _ _ _
   | exact ih10 _ _ _ _ _
   | exact LeO.none _
   | refine LeO.ite ?_ ?_
   | refine LeO.bind ?_ (fun _ => ?_)
  ·intro y0 y1 y2 y3
   unfold laws_FnTornLog.j8
   repeat' first
   | (with_reducible exact ih0 _ _ _)
   | (with_reducible exact ih1 _ _ _ _ _ _)
   | (with_reducible exact ih2 _ _ _ _ _ _ _)
   | (with_reducible exact ih3 _ _ _ _ _)
   | (with_reducible exact ih4 _ _ _ _ _ _)
   | (with_reducible exact ih5 _ _ _ _ _ _ _ _ _)
   | (with_reducible exact ih6 _ _ _ _ _ _ _ _ _ _)
   | (with_reducible exact ih7 _ _ _ _ _ _ _ _ _ _)
   | (with_reducible exact ih8 _ _ _ _)
   | (with_reducible exact ih9 _ _ _ _ _)
   | (with_reducible exact ih10 _ _ _ _ _)
   | (with_reducible exact LeO.refl _)
   | (with_reducible exact LeO.none _)
   | (with_reducible refine LeO.ite ?_ ?_)
   | (with_reducible refine LeO.bind ?_ (fun _ => ?_))
   | exact ih0 _ _ _
   | exact ih1 _ _ _ _ _ _
   | exact ih2 _ _ _ _ _ _ _
   | exact ih3 _ _ _ _ _
   | exact ih4 _ _ _ _ _ _
   | exact ih5 _ _ _ _ _ _ _ _ _
   | exact ih6 _ _ _ _ _ _ _ _ _ _
   | exact ih7 _ _ _ _ _ _ _ _ _ _
   | exact ih8 _ _ _ _
   | exact ih9 _ _ _ _ _
   | exact ih10 _ _ _ _ _
   | exact LeO.none _
   | refine LeO.ite ?_ ?_
   | refine LeO.bind ?_ (fun _ => ?_)
  ·intro y0 y1 y2 y3 y4
   unfold laws_FnTornLog.j9
   repeat' first
   | (with_reducible exact ih0 _ _ _)
   | (with_reducible exact ih1 _ _ _ _ _ _)
   | (with_reducible exact ih2 _ _ _ _ _ _ _)
   | (with_reducible exact ih3 _ _ _ _ _)
   | (with_reducible exact ih4 _ _ _ _ _ _)
   | (with_reducible exact ih5 _ _ _ _ _ _ _ _ _)
   | (with_reducible exact ih6 _ _ _ _ _ _ _ _ _ _)
   | (with_reducible exact ih7 _ _ _ _ _ _ _ _ _ _)
   | (with_reducible exact ih8 _ _ _ _)
   | (with_reducible exact ih9 _ _ _ _ _)
   | (with_reducible exact ih10 _ _ _ _ _)
   | (with_reducible exact LeO.refl _)
   | (with_reducible exact LeO.none _)
   | (with_reducible refine LeO.ite ?_ ?_)
   | (with_reducible refine LeO.bind ?_ (fun _ => ?_))
   | exact ih0 _ _ _
   | exact ih1 _ _ _ _ _ _
   | exact ih2 _ _ _ _ _ _ _
   | exact ih3 _ _ _ _ _
   | exact ih4 _ _ _ _ _ _
   | exact ih5 _ _ _ _ _ _ _ _ _
   | exact ih6 _ _ _ _ _ _ _ _ _ _
   | exact ih7 _ _ _ _ _ _ _ _ _ _
   | exact ih8 _ _ _ _
   | exact ih9 _ _ _ _ _
   | exact ih10 _ _ _ _ _
   | exact LeO.none _
   | refine LeO.ite ?_ ?_
   | refine LeO.bind ?_ (fun _ => ?_)
  ·intro y0 y1 y2 y3 y4
   unfold laws_FnTornLog.l5
   repeat' first
   | (with_reducible exact ih0 _ _ _)
   | (with_reducible exact ih1 _ _ _ _ _ _)
   | (with_reducible exact ih2 _ _ _ _ _ _ _)
   | (with_reducible exact ih3 _ _ _ _ _)
   | (with_reducible exact ih4 _ _ _ _ _ _)
   | (with_reducible exact ih5 _ _ _ _ _ _ _ _ _)
   | (with_reducible exact ih6 _ _ _ _ _ _ _ _ _ _)
   | (with_reducible exact ih7 _ _ _ _ _ _ _ _ _ _)
   | (with_reducible exact ih8 _ _ _ _)
   | (with_reducible exact ih9 _ _ _ _ _)
   | (with_reducible exact ih10 _ _ _ _ _)
   | (with_reducible exact LeO.refl _)
   | (with_reducible exact LeO.none _)
   | (with_reducible refine LeO.ite ?_ ?_)
   | (with_reducible refine LeO.bind ?_ (fun _ => ?_))
   | exact ih0 _ _ _
   | exact ih1 _ _ _ _ _ _
   | exact ih2 _ _ _ _ _ _ _
   | exact ih3 _ _ _ _ _
   | exact ih4 _ _ _ _ _ _
   | exact ih5 _ _ _ _ _ _ _ _ _
   | exact ih6 _ _ _ _ _ _ _ _ _ _
   | exact ih7 _ _ _ _ _ _ _ _ _ _
   | exact ih8 _ _ _ _
   | exact ih9 _ _ _ _ _
   | exact ih10 _ _ _ _ _
   | exact LeO.none _
   | refine LeO.ite ?_ ?_
   | refine LeO.bind ?_ (fun _ => ?_)
theorem laws_FnTornLog.mono : ∀ a0 a1 k, LeO (laws_FnTornLog.f k a0 a1) (laws_FnTornLog.f (k + 1) a0 a1) := by
 intro a0 a1 k
 obtain ⟨ih0, ih1, ih2, ih3, ih4, ih5, ih6, ih7, ih8, ih9, ih10⟩ := laws_FnTornLog.mono_l k
 unfold laws_FnTornLog.f
 repeat' first
   | (with_reducible exact ih0 _ _ _)
   | (with_reducible exact ih1 _ _ _ _ _ _)
   | (with_reducible exact ih2 _ _ _ _ _ _ _)
   | (with_reducible exact ih3 _ _ _ _ _)
   | (with_reducible exact ih4 _ _ _ _ _ _)
   | (with_reducible exact ih5 _ _ _ _ _ _ _ _ _)
   | (with_reducible exact ih6 _ _ _ _ _ _ _ _ _ _)
   | (with_reducible exact ih7 _ _ _ _ _ _ _ _ _ _)
   | (with_reducible exact ih8 _ _ _ _)
   | (with_reducible exact ih9 _ _ _ _ _)
   | (with_reducible exact ih10 _ _ _ _ _)
   | (with_reducible exact LeO.refl _)
   | (with_reducible exact LeO.none _)
   | (with_reducible refine LeO.ite ?_ ?_)
   | (with_reducible refine LeO.bind ?_ (fun _ => ?_))
   | exact ih0 _ _ _
   | exact ih1 _ _ _ _ _ _
   | exact ih2 _ _ _ _ _ _ _
   | exact ih3 _ _ _ _ _
   | exact ih4 _ _ _ _ _ _
   | exact ih5 _ _ _ _ _ _ _ _ _
   | exact ih6 _ _ _ _ _ _ _ _ _ _
   | exact ih7 _ _ _ _ _ _ _ _ _ _
   | exact ih8 _ _ _ _
   | exact ih9 _ _ _ _ _
   | exact ih10 _ _ _ _ _
   | exact LeO.none _
   | refine LeO.ite ?_ ?_
   | refine LeO.bind ?_ (fun _ => ?_)
set_option maxHeartbeats 8000000 in
set_option maxRecDepth 100000 in
theorem laws_FnTornLog.calls (k : Nat) (A0 : Option Addr) (c0 : Nat) (l0 : List Int) (A1 : Option Addr) (c1 : Nat) (l1 : List Int) (r : Bool) (w : World) (hr0 : Kd.C (Kd.int .u8) w A0 l0.length l0) (hc0 : l0.length ≤ c0) (hr1 : Kd.C (Kd.int .u8) w A1 l1.length l1) (hc1 : l1.length ≤ c1) (h : laws_FnTornLog.f k l0 l1 = some r) :
  Calls Try.prog 5 #[.slice A0 l0.length c0, .slice A1 l1.length c1] w fun e w' => e = .returned (.bool r) ∧ Below w.heap.size w w' := by
 have hu25 := Try.underlying25
 have HR0 := Aside0.mk hr0
 have HC0 := Aside0.mk hc0
 clear hr0 hc0
 have HR1 := Aside0.mk hr1
 have HC1 := Aside0.mk hc1
 clear hr1 hc1
 have HB := Aside0.mk (Below.refl w.heap.size w)
 have H : (if (l0.length : Int) > 1048576 then (laws_FnTornLog.j0 k l0 l1 true) else (laws_FnTornLog.j0 k l0 l1 (decide ((l1.length : Int) > 1048576)))) = some r := h
 clear h
 have HC3 := Aside0.mk H
 clear H
 go_enter Try.func5, Try.ntmps5
 go_upto_region 1 with (fail)
 repeat (go_quiet (fail); go_upto_region 1 with (fail))
 go_cut [28] (fun v28 wc => ∃ (kq : Nat) (x28_2 : Bool), v28 = .bool x28_2 ∧ Aside0 (laws_FnTornLog.j0 kq l0 l1 x28_2 = some r) ∧ Aside0 (kq ≤ k) ∧ Aside0 (Below w.heap.size w wc))
 case first =>
  have H := HC3.out
  clear HC3
  by_cases c4 : (l0.length : Int) > 1048576
  ·as_aux_lemma =>
    rw [if_pos c4] at H
    have c4b0 : decide (1048576 < (l0.length : Int)) = true := decide_eq_true c4
    have c4b1 : decide (1048576 < l0.length) = true := decide_eq_true (by omega)
    clear c4
    (first | rw [c4b0] | (simp only [i64_w, i32_w]; rw [c4b0]) | skip)
    have H' := Aside0.mk H
    clear H
    go_wp2
    repeat (go_quiet (fail); try go_wp2)
    go_meet
    case rel => exact ⟨_, (true), (by first | rfl | (simp; done) | (simp [*]; done)), H', ⟨by first | omega | exact Nat.le_refl _⟩, ⟨by repeat (first | (with_reducible first | exact HB.out | apply zc | apply zb | apply zd) | exact HB.out)⟩⟩
  ·as_aux_lemma =>
    rw [if_neg c4] at H
    have c4b0 : decide (1048576 < (l0.length : Int)) = false := decide_eq_false c4
    have c4b1 : decide (1048576 < l0.length) = false := decide_eq_false (by omega)
    clear c4
    (first | rw [c4b0] | (simp only [i64_w, i32_w]; rw [c4b0]) | skip)
    have H' := Aside0.mk H
    clear H
    go_wp2
    repeat (go_quiet (fail); try go_wp2)
    go_meet
    case rel => exact ⟨_, (decide ((l1.length : Int) > 1048576)), (by first | rfl | (simp; done) | (simp [*]; done)), H', ⟨by first | omega | exact Nat.le_refl _⟩, ⟨by repeat (first | (with_reducible first | exact HB.out | apply zc | apply zb | apply zd) | exact HB.out)⟩⟩
 case rest =>
  clear HC3
  try clear c1
  try clear p2
  try clear c4
  try clear c4b0
  try clear c4b1
  obtain ⟨kq, x28_2, rfl, HA, HJ2, HB⟩ := hcut
  cases kq with
  | zero => exact absurd HA.out (by simp [laws_FnTornLog.j0])
  | succ kj2 =>
   have H := HA.out
   clear HA
   simp only [laws_FnTornLog.j0] at H
   by_cases c5 : x28_2 = true
   ·as_aux_lemma =>
     subst c5
     have H1 : (some true) = some r := by rw [if_pos rfl] at H; exact H
     clear H
     have H := H1
     clear H1
     obtain rfl := Option.some.inj H
     go_wp2
     repeat (go_quiet (fail); try go_wp2)
     go_ret
     exact ⟨by first | rfl | (simp [errW_none, errW_some] <;> rfl) | (simp [*, errW_none, errW_some] <;> rfl), by repeat (first | (with_reducible first | exact HB.out | apply zc | apply zb | apply zd) | exact HB.out)⟩
   ·replace c5 := Bool.eq_false_iff.mpr c5
    subst c5
    have H1 : (laws_FnTornLog.l0 kj2 l0 l1 (([] : List ByteArray)) (([] : List Int)) (([] : List Int)) 0) = some r := by rw [if_neg (show ¬ (false = true) by decide)] at H; exact H
    clear H
    have H := H1
    clear H1
    obtain ⟨y111, hy111⟩ : ∃ y_ : List ByteArray, y_ = (([] : List ByteArray)) := ⟨_, rfl⟩
    replace H : (laws_FnTornLog.l0 kj2 l0 l1 y111 (([] : List Int)) (([] : List Int)) 0) = some r := by first | (rw [hy111]; with_reducible exact H) | (have H2_ := (Option.bind_some _ _).symm.trans H; rw [hy111]; with_reducible exact H2_) | (have H2_ := (Option.bind_some _ _).symm.trans H; with_reducible exact H2_) | with_reducible exact H | (rw [hy111]; exact H) | exact H
    have Ny111 := Aside0.mk hy111
    clear hy111
    obtain ⟨y114, hy114⟩ : ∃ y_ : List Int, y_ = (([] : List Int)) := ⟨_, rfl⟩
    replace H : (laws_FnTornLog.l0 kj2 l0 l1 y111 y114 (([] : List Int)) 0) = some r := by first | (rw [hy114]; with_reducible exact H) | (have H2_ := (Option.bind_some _ _).symm.trans H; rw [hy114]; with_reducible exact H2_) | (have H2_ := (Option.bind_some _ _).symm.trans H; with_reducible exact H2_) | with_reducible exact H | (rw [hy114]; exact H) | exact H
    have Ny114 := Aside0.mk hy114
    clear hy114
    obtain ⟨y117, hy117⟩ : ∃ y_ : List Int, y_ = (([] : List Int)) := ⟨_, rfl⟩
    replace H : (laws_FnTornLog.l0 kj2 l0 l1 y111 y114 y117 0) = some r := by first | (rw [hy117]; with_reducible exact H) | (have H2_ := (Option.bind_some _ _).symm.trans H; rw [hy117]; with_reducible exact H2_) | (have H2_ := (Option.bind_some _ _).symm.trans H; with_reducible exact H2_) | with_reducible exact H | (rw [hy117]; exact H) | exact H
    have Ny117 := Aside0.mk hy117
    clear hy117
    have H' := Aside0.mk H
    clear H
    go_wp2_with (first | ((with_reducible refine gate_dst (N := 29) rfl ?_); (try (refine zf (by rfl) ?_; dsimp only)); refine Kd.R_lit Kd.string _ 9 ?hg (N := 29) ?hd (xs := ([] : List ByteArray)) (inner := []) (ok := fun _ => True) (okp := fun _ => True) ?hr ?hp (fun _ hk => hk) trivial (Below.refl _ _) (Nat.le_refl _) (by simp) ?_; (case hd => rfl); (case hg => rfl); (case hr => first | (go_simp; done) | (go_simp; rfl)); (case hp => exact (Reps.none _ _)); intro v112 w6 zD hb hg_ hnew_; clear hg_ hnew_; (first | rw [← Ny111.out] at zD | (simp only [Int.reduceToNat] at zD; rw [← Ny111.out] at zD)); have n0_ := Aside0.mk (Kd.R_lower zD (ze (by repeat (first | (with_reducible first | exact HB.out | apply zc | apply zb | apply zd) | exact HB.out)))); have n1_ := Aside0.mk (zh (by repeat (first | (with_reducible first | exact HB.out | apply zc | apply zb | apply zd) | exact HB.out)) hb); clear HB; have zt := n0_; have HB := n1_; clear n0_ n1_; clear hb zD) | ((with_reducible refine gate_dst (N := 30) rfl ?_); (try (refine zf (by rfl) ?_; dsimp only)); refine Kd.R_lit (Kd.int .u8) _ 5 ?hg (N := 30) ?hd (xs := ([] : List Int)) (inner := []) (ok := fun _ => True) (okp := fun _ => True) ?hr ?hp (fun _ hk => hk) trivial (Below.refl _ _) (Nat.le_refl _) (by simp) ?_; (case hd => rfl); (case hg => rfl); (case hr => first | (go_simp; done) | (go_simp; rfl)); (case hp => exact (Reps.none _ _)); intro v115 w8 zE hb hg_ hnew_; clear hg_ hnew_; (first | rw [← Ny114.out] at zE | (simp only [Int.reduceToNat] at zE; rw [← Ny114.out] at zE)); have n0_ := Aside0.mk (Kd.R_below (by (with_reducible repeat (first | apply Kd.R_alloc | apply Kd.R_drewN | apply Kd.R_drew)); exact zt.out) hb); have n1_ := Aside0.mk (Kd.R_lower zE (ze (by repeat (first | (with_reducible first | exact HB.out | apply zc | apply zb | apply zd) | exact HB.out)))); have n2_ := Aside0.mk (zh (by repeat (first | (with_reducible first | exact HB.out | apply zc | apply zb | apply zd) | exact HB.out)) hb); clear zt; clear HB; have zt := n0_; have zC := n1_; have HB := n2_; clear n0_ n1_ n2_; clear hb zE) | ((with_reducible refine gate_dst (N := 31) rfl ?_); (try (refine zf (by rfl) ?_; dsimp only)); refine Kd.R_lit (Kd.int .i64) _ 3 ?hg (N := 31) ?hd (xs := ([] : List Int)) (inner := []) (ok := fun _ => True) (okp := fun _ => True) ?hr ?hp (fun _ hk => hk) trivial (Below.refl _ _) (Nat.le_refl _) (by simp) ?_; (case hd => rfl); (case hg => rfl); (case hr => first | (go_simp; done) | (go_simp; rfl)); (case hp => exact (Reps.none _ _)); intro v118 w10 zB hb hg_ hnew_; clear hg_ hnew_; (first | rw [← Ny117.out] at zB | (simp only [Int.reduceToNat] at zB; rw [← Ny117.out] at zB)); have n0_ := Aside0.mk (Kd.R_below (by (with_reducible repeat (first | apply Kd.R_alloc | apply Kd.R_drewN | apply Kd.R_drew)); exact zt.out) hb); have n1_ := Aside0.mk (Kd.R_below (by (with_reducible repeat (first | apply Kd.R_alloc | apply Kd.R_drewN | apply Kd.R_drew)); exact zC.out) hb); have n2_ := Aside0.mk (Kd.R_lower zB (ze (by repeat (first | (with_reducible first | exact HB.out | apply zc | apply zb | apply zd) | exact HB.out)))); have n3_ := Aside0.mk (zh (by repeat (first | (with_reducible first | exact HB.out | apply zc | apply zb | apply zd) | exact HB.out)) hb); clear zt; clear zC; clear HB; have zt := n0_; have zC := n1_; have zS := n2_; have HB := n3_; clear n0_ n1_ n2_ n3_; clear hb zB))
    repeat (go_quiet (first | ((with_reducible refine gate_dst (N := 29) rfl ?_); (try (refine zf (by rfl) ?_; dsimp only)); refine Kd.R_lit Kd.string _ 9 ?hg (N := 29) ?hd (xs := ([] : List ByteArray)) (inner := []) (ok := fun _ => True) (okp := fun _ => True) ?hr ?hp (fun _ hk => hk) trivial (Below.refl _ _) (Nat.le_refl _) (by simp) ?_; (case hd => rfl); (case hg => rfl); (case hr => first | (go_simp; done) | (go_simp; rfl)); (case hp => exact (Reps.none _ _)); intro v112 w6 zD hb hg_ hnew_; clear hg_ hnew_; (first | rw [← Ny111.out] at zD | (simp only [Int.reduceToNat] at zD; rw [← Ny111.out] at zD)); have n0_ := Aside0.mk (Kd.R_lower zD (ze (by repeat (first | (with_reducible first | exact HB.out | apply zc | apply zb | apply zd) | exact HB.out)))); have n1_ := Aside0.mk (zh (by repeat (first | (with_reducible first | exact HB.out | apply zc | apply zb | apply zd) | exact HB.out)) hb); clear HB; have zt := n0_; have HB := n1_; clear n0_ n1_; clear hb zD) | ((with_reducible refine gate_dst (N := 30) rfl ?_); (try (refine zf (by rfl) ?_; dsimp only)); refine Kd.R_lit (Kd.int .u8) _ 5 ?hg (N := 30) ?hd (xs := ([] : List Int)) (inner := []) (ok := fun _ => True) (okp := fun _ => True) ?hr ?hp (fun _ hk => hk) trivial (Below.refl _ _) (Nat.le_refl _) (by simp) ?_; (case hd => rfl); (case hg => rfl); (case hr => first | (go_simp; done) | (go_simp; rfl)); (case hp => exact (Reps.none _ _)); intro v115 w8 zE hb hg_ hnew_; clear hg_ hnew_; (first | rw [← Ny114.out] at zE | (simp only [Int.reduceToNat] at zE; rw [← Ny114.out] at zE)); have n0_ := Aside0.mk (Kd.R_below (by (with_reducible repeat (first | apply Kd.R_alloc | apply Kd.R_drewN | apply Kd.R_drew)); exact zt.out) hb); have n1_ := Aside0.mk (Kd.R_lower zE (ze (by repeat (first | (with_reducible first | exact HB.out | apply zc | apply zb | apply zd) | exact HB.out)))); have n2_ := Aside0.mk (zh (by repeat (first | (with_reducible first | exact HB.out | apply zc | apply zb | apply zd) | exact HB.out)) hb); clear zt; clear HB; have zt := n0_; have zC := n1_; have HB := n2_; clear n0_ n1_ n2_; clear hb zE) | ((with_reducible refine gate_dst (N := 31) rfl ?_); (try (refine zf (by rfl) ?_; dsimp only)); refine Kd.R_lit (Kd.int .i64) _ 3 ?hg (N := 31) ?hd (xs := ([] : List Int)) (inner := []) (ok := fun _ => True) (okp := fun _ => True) ?hr ?hp (fun _ hk => hk) trivial (Below.refl _ _) (Nat.le_refl _) (by simp) ?_; (case hd => rfl); (case hg => rfl); (case hr => first | (go_simp; done) | (go_simp; rfl)); (case hp => exact (Reps.none _ _)); intro v118 w10 zB hb hg_ hnew_; clear hg_ hnew_; (first | rw [← Ny117.out] at zB | (simp only [Int.reduceToNat] at zB; rw [← Ny117.out] at zB)); have n0_ := Aside0.mk (Kd.R_below (by (with_reducible repeat (first | apply Kd.R_alloc | apply Kd.R_drewN | apply Kd.R_drew)); exact zt.out) hb); have n1_ := Aside0.mk (Kd.R_below (by (with_reducible repeat (first | apply Kd.R_alloc | apply Kd.R_drewN | apply Kd.R_drew)); exact zC.out) hb); have n2_ := Aside0.mk (Kd.R_lower zB (ze (by repeat (first | (with_reducible first | exact HB.out | apply zc | apply zb | apply zd) | exact HB.out)))); have n3_ := Aside0.mk (zh (by repeat (first | (with_reducible first | exact HB.out | apply zc | apply zb | apply zd) | exact HB.out)) hb); clear zt; clear zC; clear HB; have zt := n0_; have zC := n1_; have zS := n2_; have HB := n3_; clear n0_ n1_ n2_ n3_; clear hb zB)); try go_wp2_with (first | ((with_reducible refine gate_dst (N := 29) rfl ?_); (try (refine zf (by rfl) ?_; dsimp only)); refine Kd.R_lit Kd.string _ 9 ?hg (N := 29) ?hd (xs := ([] : List ByteArray)) (inner := []) (ok := fun _ => True) (okp := fun _ => True) ?hr ?hp (fun _ hk => hk) trivial (Below.refl _ _) (Nat.le_refl _) (by simp) ?_; (case hd => rfl); (case hg => rfl); (case hr => first | (go_simp; done) | (go_simp; rfl)); (case hp => exact (Reps.none _ _)); intro v112 w6 zD hb hg_ hnew_; clear hg_ hnew_; (first | rw [← Ny111.out] at zD | (simp only [Int.reduceToNat] at zD; rw [← Ny111.out] at zD)); have n0_ := Aside0.mk (Kd.R_lower zD (ze (by repeat (first | (with_reducible first | exact HB.out | apply zc | apply zb | apply zd) | exact HB.out)))); have n1_ := Aside0.mk (zh (by repeat (first | (with_reducible first | exact HB.out | apply zc | apply zb | apply zd) | exact HB.out)) hb); clear HB; have zt := n0_; have HB := n1_; clear n0_ n1_; clear hb zD) | ((with_reducible refine gate_dst (N := 30) rfl ?_); (try (refine zf (by rfl) ?_; dsimp only)); refine Kd.R_lit (Kd.int .u8) _ 5 ?hg (N := 30) ?hd (xs := ([] : List Int)) (inner := []) (ok := fun _ => True) (okp := fun _ => True) ?hr ?hp (fun _ hk => hk) trivial (Below.refl _ _) (Nat.le_refl _) (by simp) ?_; (case hd => rfl); (case hg => rfl); (case hr => first | (go_simp; done) | (go_simp; rfl)); (case hp => exact (Reps.none _ _)); intro v115 w8 zE hb hg_ hnew_; clear hg_ hnew_; (first | rw [← Ny114.out] at zE | (simp only [Int.reduceToNat] at zE; rw [← Ny114.out] at zE)); have n0_ := Aside0.mk (Kd.R_below (by (with_reducible repeat (first | apply Kd.R_alloc | apply Kd.R_drewN | apply Kd.R_drew)); exact zt.out) hb); have n1_ := Aside0.mk (Kd.R_lower zE (ze (by repeat (first | (with_reducible first | exact HB.out | apply zc | apply zb | apply zd) | exact HB.out)))); have n2_ := Aside0.mk (zh (by repeat (first | (with_reducible first | exact HB.out | apply zc | apply zb | apply zd) | exact HB.out)) hb); clear zt; clear HB; have zt := n0_; have zC := n1_; have HB := n2_; clear n0_ n1_ n2_; clear hb zE) | ((with_reducible refine gate_dst (N := 31) rfl ?_); (try (refine zf (by rfl) ?_; dsimp only)); refine Kd.R_lit (Kd.int .i64) _ 3 ?hg (N := 31) ?hd (xs := ([] : List Int)) (inner := []) (ok := fun _ => True) (okp := fun _ => True) ?hr ?hp (fun _ hk => hk) trivial (Below.refl _ _) (Nat.le_refl _) (by simp) ?_; (case hd => rfl); (case hg => rfl); (case hr => first | (go_simp; done) | (go_simp; rfl)); (case hp => exact (Reps.none _ _)); intro v118 w10 zB hb hg_ hnew_; clear hg_ hnew_; (first | rw [← Ny117.out] at zB | (simp only [Int.reduceToNat] at zB; rw [← Ny117.out] at zB)); have n0_ := Aside0.mk (Kd.R_below (by (with_reducible repeat (first | apply Kd.R_alloc | apply Kd.R_drewN | apply Kd.R_drew)); exact zt.out) hb); have n1_ := Aside0.mk (Kd.R_below (by (with_reducible repeat (first | apply Kd.R_alloc | apply Kd.R_drewN | apply Kd.R_drew)); exact zC.out) hb); have n2_ := Aside0.mk (Kd.R_lower zB (ze (by repeat (first | (with_reducible first | exact HB.out | apply zc | apply zb | apply zd) | exact HB.out)))); have n3_ := Aside0.mk (zh (by repeat (first | (with_reducible first | exact HB.out | apply zc | apply zb | apply zd) | exact HB.out)) hb); clear zt; clear zC; clear HB; have zt := n0_; have zC := n1_; have zS := n2_; have HB := n3_; clear n0_ n1_ n2_ n3_; clear hb zB)))
    go_loopg [5, 6, 7, 8] kj2 (fun kq v5 v6 v7 v8 w' => ∃ (x5_2 : List ByteArray) (x6_2 : List Int) (x7_2 : List Int) (x8_2 : Int), v8 = .int .i64 x8_2 ∧ Aside0 (laws_FnTornLog.l0 kq l0 l1 x5_2 x6_2 x7_2 x8_2 = some r) ∧ Aside0 (kq ≤ kj2) ∧ Aside0 (Kd.R Kd.string 9 w' w.heap.size (fun _ => True) v5 x5_2) ∧ Aside0 (Kd.R (Kd.int .u8) 5 w' w.heap.size (fun _ => True) v6 x6_2) ∧ Aside0 (Kd.R (Kd.int .i64) 3 w' w.heap.size (fun _ => True) v7 x7_2) ∧ Aside0 (Below w.heap.size w w'))
    case atStart => exact ⟨(y111), (y114), (y117), (0), (by first | rfl | (simp; done) | (simp [*]; done)), H', ⟨Nat.le_refl _⟩, ⟨by (with_reducible repeat (first | apply Kd.R_alloc | apply Kd.R_drewN | apply Kd.R_drew)); exact zt.out⟩, ⟨by (with_reducible repeat (first | apply Kd.R_alloc | apply Kd.R_drewN | apply Kd.R_drew)); exact zC.out⟩, ⟨by (with_reducible repeat (first | apply Kd.R_alloc | apply Kd.R_drewN | apply Kd.R_drew)); exact zS.out⟩, ⟨by repeat (first | (with_reducible first | exact HB.out | apply zc | apply zb | apply zd) | exact HB.out)⟩⟩
    case round =>
     clear H'
     try clear c1
     try clear p2
     try clear c4
     try clear c4b0
     try clear c4b1
     try clear c5
     try clear p2
     obtain ⟨x5_2, x6_2, x7_2, x8_2, rfl, HA, HK2, zk, zi, zj, HB⟩ := hrel
     cases gk with
     | zero => exact absurd HA.out (by simp [laws_FnTornLog.l0])
     | succ k2 =>
      have H := HA.out
      clear HA
      simp only [laws_FnTornLog.l0] at H
      have HC12 := Aside0.mk H
      clear H
      go_upto_region 7 with (fail)
      repeat (go_quiet (fail); go_upto_region 7 with (fail))
      go_cut [40] (fun v40 wc => ∃ (kq : Nat) (x40_11 : Bool), v40 = .bool x40_11 ∧ Aside0 (laws_FnTornLog.j2 kq l0 l1 x5_2 x6_2 x7_2 x8_2 x40_11 = some r) ∧ Aside0 (kq ≤ k2) ∧ Aside0 (Kd.R Kd.string 9 wc w.heap.size (fun _ => True) u5 x5_2) ∧ Aside0 (Kd.R (Kd.int .u8) 5 wc w.heap.size (fun _ => True) u6 x6_2) ∧ Aside0 (Kd.R (Kd.int .i64) 3 wc w.heap.size (fun _ => True) u7 x7_2) ∧ Aside0 (Below w.heap.size w wc))
      case first =>
       have H := HC12.out
       clear HC12
       by_cases c13 : x8_2 < (l0.length : Int)
       ·as_aux_lemma =>
         rw [if_pos c13] at H
         have c13b0 : decide (x8_2 < (l0.length : Int)) = true := decide_eq_true c13
         clear c13
         (first | rw [c13b0] | (simp only [i64_w, i32_w]; rw [c13b0]) | skip)
         have H' := Aside0.mk H
         clear H
         obtain ⟨Ao14, co14, eo14⟩ := Kd.R_slice zk.out
         subst eo14
         go_wp2
         repeat (go_quiet (fail); try go_wp2)
         go_meet
         case rel => exact ⟨_, (decide ((x5_2.length : Int) < 30)), (by first | rfl | (simp; done) | (simp [*]; done)), H', ⟨by have := HJ2.out; have := HK2.out; first | omega | exact Nat.le_refl _⟩, ⟨by (with_reducible repeat (first | apply Kd.R_alloc | apply Kd.R_drewN | apply Kd.R_drew)); exact zk.out⟩, ⟨by (with_reducible repeat (first | apply Kd.R_alloc | apply Kd.R_drewN | apply Kd.R_drew)); exact zi.out⟩, ⟨by (with_reducible repeat (first | apply Kd.R_alloc | apply Kd.R_drewN | apply Kd.R_drew)); exact zj.out⟩, ⟨by repeat (first | (with_reducible first | exact HB.out | apply zc | apply zb | apply zd) | exact HB.out)⟩⟩
       ·as_aux_lemma =>
         rw [if_neg c13] at H
         have c13b0 : decide (x8_2 < (l0.length : Int)) = false := decide_eq_false c13
         clear c13
         (first | rw [c13b0] | (simp only [i64_w, i32_w]; rw [c13b0]) | skip)
         have H' := Aside0.mk H
         clear H
         go_wp2
         repeat (go_quiet (fail); try go_wp2)
         go_meet
         case rel => exact ⟨_, (false), (by first | rfl | (simp; done) | (simp [*]; done)), H', ⟨by have := HJ2.out; have := HK2.out; first | omega | exact Nat.le_refl _⟩, ⟨by (with_reducible repeat (first | apply Kd.R_alloc | apply Kd.R_drewN | apply Kd.R_drew)); exact zk.out⟩, ⟨by (with_reducible repeat (first | apply Kd.R_alloc | apply Kd.R_drewN | apply Kd.R_drew)); exact zi.out⟩, ⟨by (with_reducible repeat (first | apply Kd.R_alloc | apply Kd.R_drewN | apply Kd.R_drew)); exact zj.out⟩, ⟨by repeat (first | (with_reducible first | exact HB.out | apply zc | apply zb | apply zd) | exact HB.out)⟩⟩
      case rest =>
       clear HC12
       try clear c1
       try clear p2
       try clear c4
       try clear c4b0
       try clear c4b1
       try clear c5
       try clear c13
       try clear c13b0
       try clear p2
       obtain ⟨kq, x40_11, rfl, HA, HJ11, zk, zi, zj, HB⟩ := hcut
       cases kq with
       | zero => exact absurd HA.out (by simp [laws_FnTornLog.j2])
       | succ kj11 =>
        have H := HA.out
        clear HA
        simp only [laws_FnTornLog.j2] at H
        by_cases c15 : x40_11 = true
        ·subst c15
         have H1 : ((laws_lwAt.f l1 (x5_2.length : Int) 20).bind fun t120 => (if (wrap64 (x8_2 + (wrap64 (1 + t120)))) > (l0.length : Int) then (if 0 ≤ x8_2 then (if x8_2 ≤ (wrap64 (x8_2 + (wrap64 ((l0.length : Int) - x8_2)))) then (if (wrap64 (x8_2 + (wrap64 ((l0.length : Int) - x8_2)))) ≤ (l0.length : Int) then ((impl_Frame.f ((l0.take ((wrap64 (x8_2 + (wrap64 ((l0.length : Int) - x8_2)))) : Int).toNat).drop (x8_2 : Int).toNat)).bind fun t122 => (if (t122.length : Int) = (wrap64 (2 + (wrap64 (Int.tdiv (wrap64 ((wrap64 (8 * (wrap64 ((l0.length : Int) - x8_2)))) + 6)) 7)))) then (if x5_2.length < 8796093022208 then (if x6_2.length + t122.length < 140737488355328 then ((some (x6_2 ++ t122 : List Int)).bind fun y129 => (if x7_2.length < 17592186044416 then (laws_FnTornLog.l0 kj11 l0 l1 (x5_2 ++ [strOfNums ((l0.take ((wrap64 (x8_2 + (wrap64 ((l0.length : Int) - x8_2)))) : Int).toNat).drop (x8_2 : Int).toNat)]) y129 (x7_2 ++ [(y129.length : Int)]) (wrap64 (x8_2 + (wrap64 ((l0.length : Int) - x8_2))))) else (none))) else (none)) else (none)) else none)) else (none)) else (none)) else (none)) else (if 0 ≤ x8_2 then (if x8_2 ≤ (wrap64 (x8_2 + (wrap64 (1 + t120)))) then (if (wrap64 (x8_2 + (wrap64 (1 + t120)))) ≤ (l0.length : Int) then ((impl_Frame.f ((l0.take ((wrap64 (x8_2 + (wrap64 (1 + t120)))) : Int).toNat).drop (x8_2 : Int).toNat)).bind fun t136 => (if (t136.length : Int) = (wrap64 (2 + (wrap64 (Int.tdiv (wrap64 ((wrap64 (8 * (wrap64 (1 + t120)))) + 6)) 7)))) then (if x5_2.length < 8796093022208 then (if x6_2.length + t136.length < 140737488355328 then ((some (x6_2 ++ t136 : List Int)).bind fun y143 => (if x7_2.length < 17592186044416 then (laws_FnTornLog.l0 kj11 l0 l1 (x5_2 ++ [strOfNums ((l0.take ((wrap64 (x8_2 + (wrap64 (1 + t120)))) : Int).toNat).drop (x8_2 : Int).toNat)]) y143 (x7_2 ++ [(y143.length : Int)]) (wrap64 (x8_2 + (wrap64 (1 + t120))))) else (none))) else (none)) else (none)) else none)) else (none)) else (none)) else (none)))) = some r := by rw [if_pos rfl] at H; exact H
         clear H
         have H := H1
         clear H1
         replace H := Option.bind_eq_some_iff.mp H
         obtain ⟨t120, A160, H⟩ := H
         replace H : (if (wrap64 (x8_2 + (wrap64 (1 + t120)))) > (l0.length : Int) then (if 0 ≤ x8_2 then (if x8_2 ≤ (wrap64 (x8_2 + (wrap64 ((l0.length : Int) - x8_2)))) then (if (wrap64 (x8_2 + (wrap64 ((l0.length : Int) - x8_2)))) ≤ (l0.length : Int) then ((impl_Frame.f ((l0.take ((wrap64 (x8_2 + (wrap64 ((l0.length : Int) - x8_2)))) : Int).toNat).drop (x8_2 : Int).toNat)).bind fun t122 => (if (t122.length : Int) = (wrap64 (2 + (wrap64 (Int.tdiv (wrap64 ((wrap64 (8 * (wrap64 ((l0.length : Int) - x8_2)))) + 6)) 7)))) then (if x5_2.length < 8796093022208 then (if x6_2.length + t122.length < 140737488355328 then ((some (x6_2 ++ t122 : List Int)).bind fun y129 => (if x7_2.length < 17592186044416 then (laws_FnTornLog.l0 kj11 l0 l1 (x5_2 ++ [strOfNums ((l0.take ((wrap64 (x8_2 + (wrap64 ((l0.length : Int) - x8_2)))) : Int).toNat).drop (x8_2 : Int).toNat)]) y129 (x7_2 ++ [(y129.length : Int)]) (wrap64 (x8_2 + (wrap64 ((l0.length : Int) - x8_2))))) else (none))) else (none)) else (none)) else none)) else (none)) else (none)) else (none)) else (if 0 ≤ x8_2 then (if x8_2 ≤ (wrap64 (x8_2 + (wrap64 (1 + t120)))) then (if (wrap64 (x8_2 + (wrap64 (1 + t120)))) ≤ (l0.length : Int) then ((impl_Frame.f ((l0.take ((wrap64 (x8_2 + (wrap64 (1 + t120)))) : Int).toNat).drop (x8_2 : Int).toNat)).bind fun t136 => (if (t136.length : Int) = (wrap64 (2 + (wrap64 (Int.tdiv (wrap64 ((wrap64 (8 * (wrap64 (1 + t120)))) + 6)) 7)))) then (if x5_2.length < 8796093022208 then (if x6_2.length + t136.length < 140737488355328 then ((some (x6_2 ++ t136 : List Int)).bind fun y143 => (if x7_2.length < 17592186044416 then (laws_FnTornLog.l0 kj11 l0 l1 (x5_2 ++ [strOfNums ((l0.take ((wrap64 (x8_2 + (wrap64 (1 + t120)))) : Int).toNat).drop (x8_2 : Int).toNat)]) y143 (x7_2 ++ [(y143.length : Int)]) (wrap64 (x8_2 + (wrap64 (1 + t120))))) else (none))) else (none)) else (none)) else none)) else (none)) else (none)) else (none))) = some r := H
         have A16 := Aside0.mk A160
         clear A160
         by_cases c17 : (wrap64 (x8_2 + (wrap64 (1 + t120)))) > (l0.length : Int)
         ·rw [if_pos c17] at H
          have c17b0 : decide ((l0.length : Int) < (wrap64 (x8_2 + (wrap64 (1 + t120))))) = true := decide_eq_true c17
          clear c17
          by_cases c18 : 0 ≤ x8_2
          ·rw [if_pos c18] at H
           have c18b0 := eq_true c18
           have c18b1 : decide (0 ≤ x8_2) = true := decide_eq_true c18
           clear c18
           by_cases c19 : x8_2 ≤ (wrap64 (x8_2 + (wrap64 ((l0.length : Int) - x8_2))))
           ·rw [if_pos c19] at H
            have c19b0 := eq_true c19
            have c19b1 : decide (x8_2 ≤ (wrap64 (x8_2 + (wrap64 ((l0.length : Int) - x8_2))))) = true := decide_eq_true c19
            by_cases c20 : (wrap64 (x8_2 + (wrap64 ((l0.length : Int) - x8_2)))) ≤ (l0.length : Int)
            ·rw [if_pos c20] at H
             have c20b0 := eq_true c20
             have c20b1 : decide ((wrap64 (x8_2 + (wrap64 ((l0.length : Int) - x8_2)))) ≤ (l0.length : Int)) = true := decide_eq_true c20
             replace H := Option.bind_eq_some_iff.mp H
             obtain ⟨t122, A210, H⟩ := H
             replace H : (if (t122.length : Int) = (wrap64 (2 + (wrap64 (Int.tdiv (wrap64 ((wrap64 (8 * (wrap64 ((l0.length : Int) - x8_2)))) + 6)) 7)))) then (if x5_2.length < 8796093022208 then (if x6_2.length + t122.length < 140737488355328 then ((some (x6_2 ++ t122 : List Int)).bind fun y129 => (if x7_2.length < 17592186044416 then (laws_FnTornLog.l0 kj11 l0 l1 (x5_2 ++ [strOfNums ((l0.take ((wrap64 (x8_2 + (wrap64 ((l0.length : Int) - x8_2)))) : Int).toNat).drop (x8_2 : Int).toNat)]) y129 (x7_2 ++ [(y129.length : Int)]) (wrap64 (x8_2 + (wrap64 ((l0.length : Int) - x8_2))))) else (none))) else (none)) else (none)) else none) = some r := H
             have A21 := Aside0.mk A210
             clear A210
             by_cases c22 : (t122.length : Int) = (wrap64 (2 + (wrap64 (Int.tdiv (wrap64 ((wrap64 (8 * (wrap64 ((l0.length : Int) - x8_2)))) + 6)) 7))))
             ·rw [if_pos c22] at H
              have c22b0 : ((t122.length : Int) == (wrap64 (2 + (wrap64 (Int.tdiv (wrap64 ((wrap64 (8 * (wrap64 ((l0.length : Int) - x8_2)))) + 6)) 7))))) = true := beq_iff_eq.mpr c22
              have c22b1 : ((t122.length : Int) != (wrap64 (2 + (wrap64 (Int.tdiv (wrap64 ((wrap64 (8 * (wrap64 ((l0.length : Int) - x8_2)))) + 6)) 7))))) = false := bne_eq_false_iff_eq.mpr c22
              clear c22
              have c23b0 := eq_true (of_decide_eq_true (by first | (with_reducible assumption) | assumption) : 0 ≤ x8_2)
              have c24b0 := eq_true (of_decide_eq_true (by first | (with_reducible assumption) | assumption) : x8_2 ≤ (wrap64 (x8_2 + (wrap64 ((l0.length : Int) - x8_2)))))
              have c25b0 := eq_true (of_decide_eq_true (by first | (with_reducible assumption) | assumption) : (wrap64 (x8_2 + (wrap64 ((l0.length : Int) - x8_2)))) ≤ (l0.length : Int))
              by_cases c26 : x5_2.length < 8796093022208
              ·rw [if_pos c26] at H
               have LMc26 := Aside0.mk c26
               clear c26
               obtain ⟨y126, hy126⟩ : ∃ y_ : List ByteArray, y_ = (x5_2 ++ [strOfNums ((l0.take ((wrap64 (x8_2 + (wrap64 ((l0.length : Int) - x8_2)))) : Int).toNat).drop (x8_2 : Int).toNat)]) := ⟨_, rfl⟩
               replace H : (if x6_2.length + t122.length < 140737488355328 then ((some (x6_2 ++ t122 : List Int)).bind fun y129 => (if x7_2.length < 17592186044416 then (laws_FnTornLog.l0 kj11 l0 l1 y126 y129 (x7_2 ++ [(y129.length : Int)]) (wrap64 (x8_2 + (wrap64 ((l0.length : Int) - x8_2))))) else (none))) else (none)) = some r := by first | (rw [hy126]; with_reducible exact H) | (have H2_ := (Option.bind_some _ _).symm.trans H; rw [hy126]; with_reducible exact H2_) | (have H2_ := (Option.bind_some _ _).symm.trans H; with_reducible exact H2_) | with_reducible exact H | (rw [hy126]; exact H) | exact H
               have Ny126 := Aside0.mk hy126
               clear hy126
               by_cases c27 : x6_2.length + t122.length < 140737488355328
               ·rw [if_pos c27] at H
                have LMc27 := Aside0.mk c27
                clear c27
                obtain ⟨y129, hy129⟩ : ∃ y_ : List Int, y_ = (x6_2 ++ t122) := ⟨_, rfl⟩
                replace H : (if x7_2.length < 17592186044416 then (laws_FnTornLog.l0 kj11 l0 l1 y126 y129 (x7_2 ++ [(y129.length : Int)]) (wrap64 (x8_2 + (wrap64 ((l0.length : Int) - x8_2))))) else (none)) = some r := by first | (rw [hy129]; with_reducible exact H) | (have H2_ := (Option.bind_some _ _).symm.trans H; rw [hy129]; with_reducible exact H2_) | (have H2_ := (Option.bind_some _ _).symm.trans H; with_reducible exact H2_) | with_reducible exact H | (rw [hy129]; exact H) | exact H
                have Ny129 := Aside0.mk hy129
                clear hy129
                by_cases c28 : x7_2.length < 17592186044416
                ·as_aux_lemma =>
                  rw [if_pos c28] at H
                  have LMc28 := Aside0.mk c28
                  clear c28
                  obtain ⟨y132, hy132⟩ : ∃ y_ : List Int, y_ = (x7_2 ++ [(y129.length : Int)]) := ⟨_, rfl⟩
                  replace H : (laws_FnTornLog.l0 kj11 l0 l1 y126 y129 y132 (wrap64 (x8_2 + (wrap64 ((l0.length : Int) - x8_2))))) = some r := by first | (rw [hy132]; with_reducible exact H) | (have H2_ := (Option.bind_some _ _).symm.trans H; rw [hy132]; with_reducible exact H2_) | (have H2_ := (Option.bind_some _ _).symm.trans H; with_reducible exact H2_) | with_reducible exact H | (rw [hy132]; exact H) | exact H
                  have Ny132 := Aside0.mk hy132
                  clear hy132
                  have H' := Aside0.mk H
                  clear H
                  obtain ⟨Ao29, co29, eo29⟩ := Kd.R_slice zk.out
                  subst eo29
                  have hcB_ : ∀ (y : ByteArray) (W : World), (convert 9 22 (.string y)).run Try.prog W = .ok (.slice (some ⟨W.heap.size, 0, none⟩) y.size (grownCap W y.size 0 5)) (Lib.bytesWorld W 5 y) := fun y W => print_bytes 9 22 5 Try.underlying9 Try.underlying22 Try.underlying5 y W
                  go_wp2_with (first | (go_at_call 23; (with_reducible refine (laws_lwAt.calls _ _ l1 (x5_2.length : Int) 20 t120 _ ?side1 ?side2 A16.out).mono ?_); (case side1 => repeat (first | exact (Kd.C_below HR1.out HB.out) | (with_reducible refine Kd.C_alloc ?_ _) | (with_reducible refine Kd.C_drewN ?_ _) | (with_reducible refine Kd.C_drew ?_))); (case side2 => exact HC1.out); rintro e w' ⟨rfl, ⟨nd, rfl⟩⟩; (try first | exact ⟨rfl, _, World.drewN_drewN _ _ _⟩ | exact ⟨rfl, _, Eq.trans (World.drewN_drewN _ _ _) (congrArg (World.drewN _) (Nat.add_assoc _ _ _))⟩); obtain ⟨i030, hi030, _, hsz30, _⟩ := info_parts info5; obtain ⟨A30, hcut30, hA30, hC30⟩ := print_mid_of (P := Try.prog) (Value.int .u8) 0 22 5 .i64 .i64 Try.underlying22 hi030 hsz30 A0 c0 l0 x8_2 (wrap64 (x8_2 + (wrap64 ((l0.length : Int) - x8_2)))) (of_decide_eq_true (by first | (with_reducible assumption) | assumption)) (by first | omega | exact of_decide_eq_true (by first | (with_reducible assumption) | assumption)) (of_decide_eq_true (by first | (with_reducible assumption) | assumption)) HC0.out; have HR121 := Aside0.mk (Kd.C_of_reads (h1 := fun _ => rfl) (hA30 _ (Kd.reads_of_C HR0.out))); have HC121 := Aside0.mk hC30; clear hA30 hC30 hi030 hsz30; have hcv31 := Kd.C_string (P := Try.prog) (A := A30) (c := (c0 - x8_2.toNat)) Try.underlying22 Try.underlying5 Try.underlying9 (Kd.C_below HR121.out HB.out); have hcv31d := fun m_ : Nat => Kd.C_string (P := Try.prog) (A := A30) (c := (c0 - x8_2.toNat)) Try.underlying22 Try.underlying5 Try.underlying9 (Kd.C_drewN (Kd.C_below HR121.out HB.out) m_); have hcl_ := cut_len_ l0 x8_2 (wrap64 (x8_2 + (wrap64 ((l0.length : Int) - x8_2)))) (of_decide_eq_true (by first | (with_reducible assumption) | assumption)); rw [hcl_] at hcv31; simp only [hcl_] at hcv31d; clear hcl_) | (go_at_call 24; (with_reducible refine (frame_conv_calls _ _ ?hw_ ((l0.take ((wrap64 (x8_2 + (wrap64 ((l0.length : Int) - x8_2)))) : Int).toNat).drop (x8_2 : Int).toNat) t122 ?hm_ A21.out).mono ?_); (case hw_ => rfl); (case hm_ => rw [strOfNums_size]; exact Kd.C_max HR121.out); rintro e w32 ⟨v123, rfl, zq, hb⟩; have n0_ := Aside0.mk (Kd.R_below (by (with_reducible repeat (first | apply Kd.R_alloc | apply Kd.R_drewN | apply Kd.R_drew)); exact zk.out) hb); have n1_ := Aside0.mk (Kd.R_elder' (by (with_reducible repeat (first | apply Kd.R_alloc | apply Kd.R_drewN | apply Kd.R_drew)); exact zi.out) (Kd.R_base zq) hb); have n2_ := Aside0.mk (Kd.R_below (by (with_reducible repeat (first | apply Kd.R_alloc | apply Kd.R_drewN | apply Kd.R_drew)); exact zj.out) hb); have n3_ := Aside0.mk (Kd.R_lower (Kd.R_new' zq (Kd.R_lt (by (with_reducible repeat (first | apply Kd.R_alloc | apply Kd.R_drewN | apply Kd.R_drew)); exact zi.out))) (ze (by repeat (first | (with_reducible first | exact HB.out | apply zc | apply zb | apply zd) | exact HB.out)))); have n4_ := Aside0.mk (zh (by repeat (first | (with_reducible first | exact HB.out | apply zc | apply zb | apply zd) | exact HB.out)) hb); clear zk; clear zi; clear zj; clear HB; have zk := n0_; have zi := n1_; have zj := n2_; have zn := n3_; have HB := n4_; clear n0_ n1_ n2_ n3_ n4_; (try clear hb); (try clear hb2); (try clear hk); (try clear hi); (try clear zq); obtain ⟨Ao33, co33, eo33⟩ := Kd.R_slice zn.out; subst eo33; obtain ⟨i034, hi034, _, hsz34, _⟩ := info_parts info5; obtain ⟨A34, hcut34, hA34, hC34⟩ := print_mid_of (P := Try.prog) (Value.int .u8) 0 22 5 .i64 .i64 Try.underlying22 hi034 hsz34 A0 c0 l0 x8_2 (wrap64 (x8_2 + (wrap64 ((l0.length : Int) - x8_2)))) (of_decide_eq_true (by first | (with_reducible assumption) | assumption)) (by first | omega | exact of_decide_eq_true (by first | (with_reducible assumption) | assumption)) (of_decide_eq_true (by first | (with_reducible assumption) | assumption)) HC0.out; have HR125 := Aside0.mk (Kd.C_of_reads (h1 := fun _ => rfl) (hA34 _ (Kd.reads_of_C HR0.out))); have HC125 := Aside0.mk hC34; clear hA34 hC34 hi034 hsz34; have hcv35 := Kd.C_string (P := Try.prog) (A := A34) (c := (c0 - x8_2.toNat)) Try.underlying22 Try.underlying5 Try.underlying9 (Kd.C_below HR125.out HB.out); have hcv35d := fun m_ : Nat => Kd.C_string (P := Try.prog) (A := A34) (c := (c0 - x8_2.toNat)) Try.underlying22 Try.underlying5 Try.underlying9 (Kd.C_drewN (Kd.C_below HR125.out HB.out) m_); have hcv35e := Kd.C_string (P := Try.prog) (A := A30) (c := (c0 - x8_2.toNat)) Try.underlying22 Try.underlying5 Try.underlying9 (Kd.C_below HR121.out HB.out); rw [cut_len_ l0 x8_2 (wrap64 (x8_2 + (wrap64 ((l0.length : Int) - x8_2)))) (of_decide_eq_true (by first | (with_reducible assumption) | assumption))] at hcv35e; have hcl_ := cut_len_ l0 x8_2 (wrap64 (x8_2 + (wrap64 ((l0.length : Int) - x8_2)))) (of_decide_eq_true (by first | (with_reducible assumption) | assumption)); rw [hcl_] at hcv35; simp only [hcl_] at hcv35d; clear hcl_) | ((with_reducible refine zg (b := .append) (xs := #[.tmp 73, .tmp 81]) rfl ?_); (try (refine zf (by rfl) ?_; dsimp only)); at_builtin; refine Kd.R_append Kd.string (w0 := w) w.heap.size rfl (.tmp 73) (.tmp 81) 46 9 (.string ⟨#[]⟩) 16 rfl Try.underlying46 info9 rfl (by decide) (by omega) (.slice Ao29 x5_2.length co29) x5_2 (strOfNums ((l0.take ((wrap64 (x8_2 + (wrap64 ((l0.length : Int) - x8_2)))) : Int).toNat).drop (x8_2 : Int).toNat)) [.string (strOfNums ((l0.take ((wrap64 (x8_2 + (wrap64 ((l0.length : Int) - x8_2)))) : Int).toNat).drop (x8_2 : Int).toNat))] (fun _ => True) (fun _ => False) rfl rfl ?aP (fun _ hk => hk.elim) ?aF ?aO ?aB ?aS ?aL ?_; (case aP => exact rfl); (case aB => exact (by repeat (first | (with_reducible first | exact HB.out | apply zc | apply zb | apply zd) | exact HB.out))); (case aF => exact (fun _ _ => trivial)); (case aO => exact (by (with_reducible repeat (first | apply Kd.R_alloc | apply Kd.R_drewN | apply Kd.R_drew)); exact zk.out)); (case aS => exact (ze (by repeat (first | (with_reducible first | exact HB.out | apply zc | apply zb | apply zd) | exact HB.out)))); (case aL => have := LMc26.out; omega); intro v127 w36 ho hb hg hat; rw [← Ny126.out] at ho; have n0_ := Aside0.mk (Kd.R_over' (by (with_reducible repeat (first | apply Kd.R_alloc | apply Kd.R_drewN | apply Kd.R_drew)); exact zi.out) (Kd.R_typed (by (with_reducible repeat (first | apply Kd.R_alloc | apply Kd.R_drewN | apply Kd.R_drew)); exact zk.out)) (by decide) hg); have n1_ := Aside0.mk (Kd.R_over' (by (with_reducible repeat (first | apply Kd.R_alloc | apply Kd.R_drewN | apply Kd.R_drew)); exact zj.out) (Kd.R_typed (by (with_reducible repeat (first | apply Kd.R_alloc | apply Kd.R_drewN | apply Kd.R_drew)); exact zk.out)) (by decide) hg); have n2_ := Aside0.mk (Kd.R_over' (by (with_reducible repeat (first | apply Kd.R_alloc | apply Kd.R_drewN | apply Kd.R_drew)); exact zn.out) (Kd.R_typed (by (with_reducible repeat (first | apply Kd.R_alloc | apply Kd.R_drewN | apply Kd.R_drew)); exact zk.out)) (by decide) hg); have n3_ := Aside0.mk (hb); have n4_ := Aside0.mk (ho); clear zi; clear zj; clear zn; clear HB; clear zk; have zi := n0_; have zj := n1_; have zn := n2_; have HB := n3_; have zu := n4_; clear n0_ n1_ n2_ n3_ n4_; clear ho hb hg hat) | ((with_reducible refine zg (b := .append) (xs := #[.tmp 83, .tmp 84]) rfl ?_); (try (refine zf (by rfl) ?_; dsimp only)); at_builtin; refine Kd.R_append_rows (Kd.int .u8) (w0 := w) w.heap.size rfl (.tmp 83) (.tmp 84) 22 5 (.int .u8 0) 1 rfl Try.underlying22 info5 rfl (by decide) (by omega) u6 x6_2 t122 _ _ _ (fun k_ => some k_ ≠ (.slice Ao33 t122.length co33 : Value).ownBlock) (fun _ => False) rfl rfl ?aO ?aR (fun _ _ h => h) (fun _ h => h.elim) ?aF ?aB ?aS ?aL ?_; (case aR => repeat (first | exact (Kd.R_reads' zn.out).2.2 | (with_reducible refine Kd.C_alloc ?_ _) | (with_reducible refine Kd.C_drewN ?_ _) | (with_reducible refine Kd.C_drew ?_))); (case aB => exact (by repeat (first | (with_reducible first | exact HB.out | apply zc | apply zb | apply zd) | exact HB.out))); (case aF => exact (fun k_ hk => Kd.fresh' (Kd.R_lt (by (with_reducible repeat (first | apply Kd.R_alloc | apply Kd.R_drewN | apply Kd.R_drew)); exact zn.out)) k_ hk)); (case aO => exact (by (with_reducible repeat (first | apply Kd.R_alloc | apply Kd.R_drewN | apply Kd.R_drew)); exact Kd.R_mono zi.out (fun _ hk => hk.2))); (case aS => exact (ze (by repeat (first | (with_reducible first | exact HB.out | apply zc | apply zb | apply zd) | exact HB.out)))); (case aL => have := LMc27.out; omega); intro v130 w37 ho hb hg hat; rw [← Ny129.out] at ho; have n0_ := Aside0.mk (Kd.R_over' (by (with_reducible repeat (first | apply Kd.R_alloc | apply Kd.R_drewN | apply Kd.R_drew)); exact zj.out) (Kd.R_typed (by (with_reducible repeat (first | apply Kd.R_alloc | apply Kd.R_drewN | apply Kd.R_drew)); exact zi.out)) (by decide) hg); have n1_ := Aside0.mk (Kd.R_after (ok := (fun _ => True)) (by (with_reducible repeat (first | apply Kd.R_alloc | apply Kd.R_drewN | apply Kd.R_drew)); exact zn.out) hg hat); have n2_ := Aside0.mk (Kd.R_over' (by (with_reducible repeat (first | apply Kd.R_alloc | apply Kd.R_drewN | apply Kd.R_drew)); exact zu.out) (Kd.R_typed (by (with_reducible repeat (first | apply Kd.R_alloc | apply Kd.R_drewN | apply Kd.R_drew)); exact zi.out)) (by decide) hg); have n3_ := Aside0.mk (hb); have n4_ := Aside0.mk (ho); clear zj; clear zn; clear zu; clear HB; clear zi; have zj := n0_; have zn := n1_; have zu := n2_; have HB := n3_; have zz := n4_; clear n0_ n1_ n2_ n3_ n4_; clear ho hb hg hat; obtain ⟨Ao38, co38, eo38⟩ := Kd.R_slice zz.out; subst eo38) | ((with_reducible refine zg (b := .append) (xs := #[.tmp 86, .tmp 89]) rfl ?_); (try (refine zf (by rfl) ?_; dsimp only)); at_builtin; refine Kd.R_append (Kd.int .i64) (w0 := w) w.heap.size rfl (.tmp 86) (.tmp 89) 47 3 (.int .i64 0) 8 rfl Try.underlying47 info3 rfl (by decide) (by omega) u7 x7_2 (y129.length : Int) [.int .i64 (y129.length : Int)] (fun _ => True) (fun _ => False) rfl rfl ?aP (fun _ hk => hk.elim) ?aF ?aO ?aB ?aS ?aL ?_; (case aP => exact rfl); (case aB => exact (by repeat (first | (with_reducible first | exact HB.out | apply zc | apply zb | apply zd) | exact HB.out))); (case aF => exact (fun _ _ => trivial)); (case aO => exact (by (with_reducible repeat (first | apply Kd.R_alloc | apply Kd.R_drewN | apply Kd.R_drew)); exact zj.out)); (case aS => exact (ze (by repeat (first | (with_reducible first | exact HB.out | apply zc | apply zb | apply zd) | exact HB.out)))); (case aL => have := LMc28.out; omega); intro v133 w39 ho hb hg hat; rw [← Ny132.out] at ho; have n0_ := Aside0.mk (Kd.R_over' (by (with_reducible repeat (first | apply Kd.R_alloc | apply Kd.R_drewN | apply Kd.R_drew)); exact zn.out) (Kd.R_typed (by (with_reducible repeat (first | apply Kd.R_alloc | apply Kd.R_drewN | apply Kd.R_drew)); exact zj.out)) (by decide) hg); have n1_ := Aside0.mk (Kd.R_over' (by (with_reducible repeat (first | apply Kd.R_alloc | apply Kd.R_drewN | apply Kd.R_drew)); exact zu.out) (Kd.R_typed (by (with_reducible repeat (first | apply Kd.R_alloc | apply Kd.R_drewN | apply Kd.R_drew)); exact zj.out)) (by decide) hg); have n2_ := Aside0.mk (Kd.R_over' (by (with_reducible repeat (first | apply Kd.R_alloc | apply Kd.R_drewN | apply Kd.R_drew)); exact zz.out) (Kd.R_typed (by (with_reducible repeat (first | apply Kd.R_alloc | apply Kd.R_drewN | apply Kd.R_drew)); exact zj.out)) (by decide) hg); have n3_ := Aside0.mk (hb); have n4_ := Aside0.mk (ho); clear zn; clear zu; clear zz; clear HB; clear zj; have zn := n0_; have zu := n1_; have zz := n2_; have HB := n3_; have zT := n4_; clear n0_ n1_ n2_ n3_ n4_; clear ho hb hg hat))
                  repeat (go_quiet (first | (go_at_call 23; (with_reducible refine (laws_lwAt.calls _ _ l1 (x5_2.length : Int) 20 t120 _ ?side1 ?side2 A16.out).mono ?_); (case side1 => repeat (first | exact (Kd.C_below HR1.out HB.out) | (with_reducible refine Kd.C_alloc ?_ _) | (with_reducible refine Kd.C_drewN ?_ _) | (with_reducible refine Kd.C_drew ?_))); (case side2 => exact HC1.out); rintro e w' ⟨rfl, ⟨nd, rfl⟩⟩; (try first | exact ⟨rfl, _, World.drewN_drewN _ _ _⟩ | exact ⟨rfl, _, Eq.trans (World.drewN_drewN _ _ _) (congrArg (World.drewN _) (Nat.add_assoc _ _ _))⟩); obtain ⟨i030, hi030, _, hsz30, _⟩ := info_parts info5; obtain ⟨A30, hcut30, hA30, hC30⟩ := print_mid_of (P := Try.prog) (Value.int .u8) 0 22 5 .i64 .i64 Try.underlying22 hi030 hsz30 A0 c0 l0 x8_2 (wrap64 (x8_2 + (wrap64 ((l0.length : Int) - x8_2)))) (of_decide_eq_true (by first | (with_reducible assumption) | assumption)) (by first | omega | exact of_decide_eq_true (by first | (with_reducible assumption) | assumption)) (of_decide_eq_true (by first | (with_reducible assumption) | assumption)) HC0.out; have HR121 := Aside0.mk (Kd.C_of_reads (h1 := fun _ => rfl) (hA30 _ (Kd.reads_of_C HR0.out))); have HC121 := Aside0.mk hC30; clear hA30 hC30 hi030 hsz30; have hcv31 := Kd.C_string (P := Try.prog) (A := A30) (c := (c0 - x8_2.toNat)) Try.underlying22 Try.underlying5 Try.underlying9 (Kd.C_below HR121.out HB.out); have hcv31d := fun m_ : Nat => Kd.C_string (P := Try.prog) (A := A30) (c := (c0 - x8_2.toNat)) Try.underlying22 Try.underlying5 Try.underlying9 (Kd.C_drewN (Kd.C_below HR121.out HB.out) m_); have hcl_ := cut_len_ l0 x8_2 (wrap64 (x8_2 + (wrap64 ((l0.length : Int) - x8_2)))) (of_decide_eq_true (by first | (with_reducible assumption) | assumption)); rw [hcl_] at hcv31; simp only [hcl_] at hcv31d; clear hcl_) | (go_at_call 24; (with_reducible refine (frame_conv_calls _ _ ?hw_ ((l0.take ((wrap64 (x8_2 + (wrap64 ((l0.length : Int) - x8_2)))) : Int).toNat).drop (x8_2 : Int).toNat) t122 ?hm_ A21.out).mono ?_); (case hw_ => rfl); (case hm_ => rw [strOfNums_size]; exact Kd.C_max HR121.out); rintro e w32 ⟨v123, rfl, zq, hb⟩; have n0_ := Aside0.mk (Kd.R_below (by (with_reducible repeat (first | apply Kd.R_alloc | apply Kd.R_drewN | apply Kd.R_drew)); exact zk.out) hb); have n1_ := Aside0.mk (Kd.R_elder' (by (with_reducible repeat (first | apply Kd.R_alloc | apply Kd.R_drewN | apply Kd.R_drew)); exact zi.out) (Kd.R_base zq) hb); have n2_ := Aside0.mk (Kd.R_below (by (with_reducible repeat (first | apply Kd.R_alloc | apply Kd.R_drewN | apply Kd.R_drew)); exact zj.out) hb); have n3_ := Aside0.mk (Kd.R_lower (Kd.R_new' zq (Kd.R_lt (by (with_reducible repeat (first | apply Kd.R_alloc | apply Kd.R_drewN | apply Kd.R_drew)); exact zi.out))) (ze (by repeat (first | (with_reducible first | exact HB.out | apply zc | apply zb | apply zd) | exact HB.out)))); have n4_ := Aside0.mk (zh (by repeat (first | (with_reducible first | exact HB.out | apply zc | apply zb | apply zd) | exact HB.out)) hb); clear zk; clear zi; clear zj; clear HB; have zk := n0_; have zi := n1_; have zj := n2_; have zn := n3_; have HB := n4_; clear n0_ n1_ n2_ n3_ n4_; (try clear hb); (try clear hb2); (try clear hk); (try clear hi); (try clear zq); obtain ⟨Ao33, co33, eo33⟩ := Kd.R_slice zn.out; subst eo33; obtain ⟨i034, hi034, _, hsz34, _⟩ := info_parts info5; obtain ⟨A34, hcut34, hA34, hC34⟩ := print_mid_of (P := Try.prog) (Value.int .u8) 0 22 5 .i64 .i64 Try.underlying22 hi034 hsz34 A0 c0 l0 x8_2 (wrap64 (x8_2 + (wrap64 ((l0.length : Int) - x8_2)))) (of_decide_eq_true (by first | (with_reducible assumption) | assumption)) (by first | omega | exact of_decide_eq_true (by first | (with_reducible assumption) | assumption)) (of_decide_eq_true (by first | (with_reducible assumption) | assumption)) HC0.out; have HR125 := Aside0.mk (Kd.C_of_reads (h1 := fun _ => rfl) (hA34 _ (Kd.reads_of_C HR0.out))); have HC125 := Aside0.mk hC34; clear hA34 hC34 hi034 hsz34; have hcv35 := Kd.C_string (P := Try.prog) (A := A34) (c := (c0 - x8_2.toNat)) Try.underlying22 Try.underlying5 Try.underlying9 (Kd.C_below HR125.out HB.out); have hcv35d := fun m_ : Nat => Kd.C_string (P := Try.prog) (A := A34) (c := (c0 - x8_2.toNat)) Try.underlying22 Try.underlying5 Try.underlying9 (Kd.C_drewN (Kd.C_below HR125.out HB.out) m_); have hcv35e := Kd.C_string (P := Try.prog) (A := A30) (c := (c0 - x8_2.toNat)) Try.underlying22 Try.underlying5 Try.underlying9 (Kd.C_below HR121.out HB.out); rw [cut_len_ l0 x8_2 (wrap64 (x8_2 + (wrap64 ((l0.length : Int) - x8_2)))) (of_decide_eq_true (by first | (with_reducible assumption) | assumption))] at hcv35e; have hcl_ := cut_len_ l0 x8_2 (wrap64 (x8_2 + (wrap64 ((l0.length : Int) - x8_2)))) (of_decide_eq_true (by first | (with_reducible assumption) | assumption)); rw [hcl_] at hcv35; simp only [hcl_] at hcv35d; clear hcl_) | ((with_reducible refine zg (b := .append) (xs := #[.tmp 73, .tmp 81]) rfl ?_); (try (refine zf (by rfl) ?_; dsimp only)); at_builtin; refine Kd.R_append Kd.string (w0 := w) w.heap.size rfl (.tmp 73) (.tmp 81) 46 9 (.string ⟨#[]⟩) 16 rfl Try.underlying46 info9 rfl (by decide) (by omega) (.slice Ao29 x5_2.length co29) x5_2 (strOfNums ((l0.take ((wrap64 (x8_2 + (wrap64 ((l0.length : Int) - x8_2)))) : Int).toNat).drop (x8_2 : Int).toNat)) [.string (strOfNums ((l0.take ((wrap64 (x8_2 + (wrap64 ((l0.length : Int) - x8_2)))) : Int).toNat).drop (x8_2 : Int).toNat))] (fun _ => True) (fun _ => False) rfl rfl ?aP (fun _ hk => hk.elim) ?aF ?aO ?aB ?aS ?aL ?_; (case aP => exact rfl); (case aB => exact (by repeat (first | (with_reducible first | exact HB.out | apply zc | apply zb | apply zd) | exact HB.out))); (case aF => exact (fun _ _ => trivial)); (case aO => exact (by (with_reducible repeat (first | apply Kd.R_alloc | apply Kd.R_drewN | apply Kd.R_drew)); exact zk.out)); (case aS => exact (ze (by repeat (first | (with_reducible first | exact HB.out | apply zc | apply zb | apply zd) | exact HB.out)))); (case aL => have := LMc26.out; omega); intro v127 w36 ho hb hg hat; rw [← Ny126.out] at ho; have n0_ := Aside0.mk (Kd.R_over' (by (with_reducible repeat (first | apply Kd.R_alloc | apply Kd.R_drewN | apply Kd.R_drew)); exact zi.out) (Kd.R_typed (by (with_reducible repeat (first | apply Kd.R_alloc | apply Kd.R_drewN | apply Kd.R_drew)); exact zk.out)) (by decide) hg); have n1_ := Aside0.mk (Kd.R_over' (by (with_reducible repeat (first | apply Kd.R_alloc | apply Kd.R_drewN | apply Kd.R_drew)); exact zj.out) (Kd.R_typed (by (with_reducible repeat (first | apply Kd.R_alloc | apply Kd.R_drewN | apply Kd.R_drew)); exact zk.out)) (by decide) hg); have n2_ := Aside0.mk (Kd.R_over' (by (with_reducible repeat (first | apply Kd.R_alloc | apply Kd.R_drewN | apply Kd.R_drew)); exact zn.out) (Kd.R_typed (by (with_reducible repeat (first | apply Kd.R_alloc | apply Kd.R_drewN | apply Kd.R_drew)); exact zk.out)) (by decide) hg); have n3_ := Aside0.mk (hb); have n4_ := Aside0.mk (ho); clear zi; clear zj; clear zn; clear HB; clear zk; have zi := n0_; have zj := n1_; have zn := n2_; have HB := n3_; have zu := n4_; clear n0_ n1_ n2_ n3_ n4_; clear ho hb hg hat) | ((with_reducible refine zg (b := .append) (xs := #[.tmp 83, .tmp 84]) rfl ?_); (try (refine zf (by rfl) ?_; dsimp only)); at_builtin; refine Kd.R_append_rows (Kd.int .u8) (w0 := w) w.heap.size rfl (.tmp 83) (.tmp 84) 22 5 (.int .u8 0) 1 rfl Try.underlying22 info5 rfl (by decide) (by omega) u6 x6_2 t122 _ _ _ (fun k_ => some k_ ≠ (.slice Ao33 t122.length co33 : Value).ownBlock) (fun _ => False) rfl rfl ?aO ?aR (fun _ _ h => h) (fun _ h => h.elim) ?aF ?aB ?aS ?aL ?_; (case aR => repeat (first | exact (Kd.R_reads' zn.out).2.2 | (with_reducible refine Kd.C_alloc ?_ _) | (with_reducible refine Kd.C_drewN ?_ _) | (with_reducible refine Kd.C_drew ?_))); (case aB => exact (by repeat (first | (with_reducible first | exact HB.out | apply zc | apply zb | apply zd) | exact HB.out))); (case aF => exact (fun k_ hk => Kd.fresh' (Kd.R_lt (by (with_reducible repeat (first | apply Kd.R_alloc | apply Kd.R_drewN | apply Kd.R_drew)); exact zn.out)) k_ hk)); (case aO => exact (by (with_reducible repeat (first | apply Kd.R_alloc | apply Kd.R_drewN | apply Kd.R_drew)); exact Kd.R_mono zi.out (fun _ hk => hk.2))); (case aS => exact (ze (by repeat (first | (with_reducible first | exact HB.out | apply zc | apply zb | apply zd) | exact HB.out)))); (case aL => have := LMc27.out; omega); intro v130 w37 ho hb hg hat; rw [← Ny129.out] at ho; have n0_ := Aside0.mk (Kd.R_over' (by (with_reducible repeat (first | apply Kd.R_alloc | apply Kd.R_drewN | apply Kd.R_drew)); exact zj.out) (Kd.R_typed (by (with_reducible repeat (first | apply Kd.R_alloc | apply Kd.R_drewN | apply Kd.R_drew)); exact zi.out)) (by decide) hg); have n1_ := Aside0.mk (Kd.R_after (ok := (fun _ => True)) (by (with_reducible repeat (first | apply Kd.R_alloc | apply Kd.R_drewN | apply Kd.R_drew)); exact zn.out) hg hat); have n2_ := Aside0.mk (Kd.R_over' (by (with_reducible repeat (first | apply Kd.R_alloc | apply Kd.R_drewN | apply Kd.R_drew)); exact zu.out) (Kd.R_typed (by (with_reducible repeat (first | apply Kd.R_alloc | apply Kd.R_drewN | apply Kd.R_drew)); exact zi.out)) (by decide) hg); have n3_ := Aside0.mk (hb); have n4_ := Aside0.mk (ho); clear zj; clear zn; clear zu; clear HB; clear zi; have zj := n0_; have zn := n1_; have zu := n2_; have HB := n3_; have zz := n4_; clear n0_ n1_ n2_ n3_ n4_; clear ho hb hg hat; obtain ⟨Ao38, co38, eo38⟩ := Kd.R_slice zz.out; subst eo38) | ((with_reducible refine zg (b := .append) (xs := #[.tmp 86, .tmp 89]) rfl ?_); (try (refine zf (by rfl) ?_; dsimp only)); at_builtin; refine Kd.R_append (Kd.int .i64) (w0 := w) w.heap.size rfl (.tmp 86) (.tmp 89) 47 3 (.int .i64 0) 8 rfl Try.underlying47 info3 rfl (by decide) (by omega) u7 x7_2 (y129.length : Int) [.int .i64 (y129.length : Int)] (fun _ => True) (fun _ => False) rfl rfl ?aP (fun _ hk => hk.elim) ?aF ?aO ?aB ?aS ?aL ?_; (case aP => exact rfl); (case aB => exact (by repeat (first | (with_reducible first | exact HB.out | apply zc | apply zb | apply zd) | exact HB.out))); (case aF => exact (fun _ _ => trivial)); (case aO => exact (by (with_reducible repeat (first | apply Kd.R_alloc | apply Kd.R_drewN | apply Kd.R_drew)); exact zj.out)); (case aS => exact (ze (by repeat (first | (with_reducible first | exact HB.out | apply zc | apply zb | apply zd) | exact HB.out)))); (case aL => have := LMc28.out; omega); intro v133 w39 ho hb hg hat; rw [← Ny132.out] at ho; have n0_ := Aside0.mk (Kd.R_over' (by (with_reducible repeat (first | apply Kd.R_alloc | apply Kd.R_drewN | apply Kd.R_drew)); exact zn.out) (Kd.R_typed (by (with_reducible repeat (first | apply Kd.R_alloc | apply Kd.R_drewN | apply Kd.R_drew)); exact zj.out)) (by decide) hg); have n1_ := Aside0.mk (Kd.R_over' (by (with_reducible repeat (first | apply Kd.R_alloc | apply Kd.R_drewN | apply Kd.R_drew)); exact zu.out) (Kd.R_typed (by (with_reducible repeat (first | apply Kd.R_alloc | apply Kd.R_drewN | apply Kd.R_drew)); exact zj.out)) (by decide) hg); have n2_ := Aside0.mk (Kd.R_over' (by (with_reducible repeat (first | apply Kd.R_alloc | apply Kd.R_drewN | apply Kd.R_drew)); exact zz.out) (Kd.R_typed (by (with_reducible repeat (first | apply Kd.R_alloc | apply Kd.R_drewN | apply Kd.R_drew)); exact zj.out)) (by decide) hg); have n3_ := Aside0.mk (hb); have n4_ := Aside0.mk (ho); clear zn; clear zu; clear zz; clear HB; clear zj; have zn := n0_; have zu := n1_; have zz := n2_; have HB := n3_; have zT := n4_; clear n0_ n1_ n2_ n3_ n4_; clear ho hb hg hat)); try go_wp2_with (first | (go_at_call 23; (with_reducible refine (laws_lwAt.calls _ _ l1 (x5_2.length : Int) 20 t120 _ ?side1 ?side2 A16.out).mono ?_); (case side1 => repeat (first | exact (Kd.C_below HR1.out HB.out) | (with_reducible refine Kd.C_alloc ?_ _) | (with_reducible refine Kd.C_drewN ?_ _) | (with_reducible refine Kd.C_drew ?_))); (case side2 => exact HC1.out); rintro e w' ⟨rfl, ⟨nd, rfl⟩⟩; (try first | exact ⟨rfl, _, World.drewN_drewN _ _ _⟩ | exact ⟨rfl, _, Eq.trans (World.drewN_drewN _ _ _) (congrArg (World.drewN _) (Nat.add_assoc _ _ _))⟩); obtain ⟨i030, hi030, _, hsz30, _⟩ := info_parts info5; obtain ⟨A30, hcut30, hA30, hC30⟩ := print_mid_of (P := Try.prog) (Value.int .u8) 0 22 5 .i64 .i64 Try.underlying22 hi030 hsz30 A0 c0 l0 x8_2 (wrap64 (x8_2 + (wrap64 ((l0.length : Int) - x8_2)))) (of_decide_eq_true (by first | (with_reducible assumption) | assumption)) (by first | omega | exact of_decide_eq_true (by first | (with_reducible assumption) | assumption)) (of_decide_eq_true (by first | (with_reducible assumption) | assumption)) HC0.out; have HR121 := Aside0.mk (Kd.C_of_reads (h1 := fun _ => rfl) (hA30 _ (Kd.reads_of_C HR0.out))); have HC121 := Aside0.mk hC30; clear hA30 hC30 hi030 hsz30; have hcv31 := Kd.C_string (P := Try.prog) (A := A30) (c := (c0 - x8_2.toNat)) Try.underlying22 Try.underlying5 Try.underlying9 (Kd.C_below HR121.out HB.out); have hcv31d := fun m_ : Nat => Kd.C_string (P := Try.prog) (A := A30) (c := (c0 - x8_2.toNat)) Try.underlying22 Try.underlying5 Try.underlying9 (Kd.C_drewN (Kd.C_below HR121.out HB.out) m_); have hcv31e := Kd.C_string (P := Try.prog) (A := A34) (c := (c0 - x8_2.toNat)) Try.underlying22 Try.underlying5 Try.underlying9 (Kd.C_below HR125.out HB.out); rw [cut_len_ l0 x8_2 (wrap64 (x8_2 + (wrap64 ((l0.length : Int) - x8_2)))) (of_decide_eq_true (by first | (with_reducible assumption) | assumption))] at hcv31e; have hcl_ := cut_len_ l0 x8_2 (wrap64 (x8_2 + (wrap64 ((l0.length : Int) - x8_2)))) (of_decide_eq_true (by first | (with_reducible assumption) | assumption)); rw [hcl_] at hcv31; simp only [hcl_] at hcv31d; clear hcl_) | (go_at_call 24; (with_reducible refine (frame_conv_calls _ _ ?hw_ ((l0.take ((wrap64 (x8_2 + (wrap64 ((l0.length : Int) - x8_2)))) : Int).toNat).drop (x8_2 : Int).toNat) t122 ?hm_ A21.out).mono ?_); (case hw_ => rfl); (case hm_ => rw [strOfNums_size]; exact Kd.C_max HR121.out); rintro e w32 ⟨v123, rfl, zq, hb⟩; have n0_ := Aside0.mk (Kd.R_below (by (with_reducible repeat (first | apply Kd.R_alloc | apply Kd.R_drewN | apply Kd.R_drew)); exact zk.out) hb); have n1_ := Aside0.mk (Kd.R_elder' (by (with_reducible repeat (first | apply Kd.R_alloc | apply Kd.R_drewN | apply Kd.R_drew)); exact zi.out) (Kd.R_base zq) hb); have n2_ := Aside0.mk (Kd.R_below (by (with_reducible repeat (first | apply Kd.R_alloc | apply Kd.R_drewN | apply Kd.R_drew)); exact zj.out) hb); have n3_ := Aside0.mk (Kd.R_lower (Kd.R_new' zq (Kd.R_lt (by (with_reducible repeat (first | apply Kd.R_alloc | apply Kd.R_drewN | apply Kd.R_drew)); exact zi.out))) (ze (by repeat (first | (with_reducible first | exact HB.out | apply zc | apply zb | apply zd) | exact HB.out)))); have n4_ := Aside0.mk (zh (by repeat (first | (with_reducible first | exact HB.out | apply zc | apply zb | apply zd) | exact HB.out)) hb); clear zk; clear zi; clear zj; clear HB; have zk := n0_; have zi := n1_; have zj := n2_; have zn := n3_; have HB := n4_; clear n0_ n1_ n2_ n3_ n4_; (try clear hb); (try clear hb2); (try clear hk); (try clear hi); (try clear zq); obtain ⟨Ao33, co33, eo33⟩ := Kd.R_slice zn.out; subst eo33; obtain ⟨i034, hi034, _, hsz34, _⟩ := info_parts info5; obtain ⟨A34, hcut34, hA34, hC34⟩ := print_mid_of (P := Try.prog) (Value.int .u8) 0 22 5 .i64 .i64 Try.underlying22 hi034 hsz34 A0 c0 l0 x8_2 (wrap64 (x8_2 + (wrap64 ((l0.length : Int) - x8_2)))) (of_decide_eq_true (by first | (with_reducible assumption) | assumption)) (by first | omega | exact of_decide_eq_true (by first | (with_reducible assumption) | assumption)) (of_decide_eq_true (by first | (with_reducible assumption) | assumption)) HC0.out; have HR125 := Aside0.mk (Kd.C_of_reads (h1 := fun _ => rfl) (hA34 _ (Kd.reads_of_C HR0.out))); have HC125 := Aside0.mk hC34; clear hA34 hC34 hi034 hsz34; have hcv35 := Kd.C_string (P := Try.prog) (A := A34) (c := (c0 - x8_2.toNat)) Try.underlying22 Try.underlying5 Try.underlying9 (Kd.C_below HR125.out HB.out); have hcv35d := fun m_ : Nat => Kd.C_string (P := Try.prog) (A := A34) (c := (c0 - x8_2.toNat)) Try.underlying22 Try.underlying5 Try.underlying9 (Kd.C_drewN (Kd.C_below HR125.out HB.out) m_); have hcv35e := Kd.C_string (P := Try.prog) (A := A30) (c := (c0 - x8_2.toNat)) Try.underlying22 Try.underlying5 Try.underlying9 (Kd.C_below HR121.out HB.out); rw [cut_len_ l0 x8_2 (wrap64 (x8_2 + (wrap64 ((l0.length : Int) - x8_2)))) (of_decide_eq_true (by first | (with_reducible assumption) | assumption))] at hcv35e; have hcl_ := cut_len_ l0 x8_2 (wrap64 (x8_2 + (wrap64 ((l0.length : Int) - x8_2)))) (of_decide_eq_true (by first | (with_reducible assumption) | assumption)); rw [hcl_] at hcv35; simp only [hcl_] at hcv35d; clear hcl_) | ((with_reducible refine zg (b := .append) (xs := #[.tmp 73, .tmp 81]) rfl ?_); (try (refine zf (by rfl) ?_; dsimp only)); at_builtin; refine Kd.R_append Kd.string (w0 := w) w.heap.size rfl (.tmp 73) (.tmp 81) 46 9 (.string ⟨#[]⟩) 16 rfl Try.underlying46 info9 rfl (by decide) (by omega) (.slice Ao29 x5_2.length co29) x5_2 (strOfNums ((l0.take ((wrap64 (x8_2 + (wrap64 ((l0.length : Int) - x8_2)))) : Int).toNat).drop (x8_2 : Int).toNat)) [.string (strOfNums ((l0.take ((wrap64 (x8_2 + (wrap64 ((l0.length : Int) - x8_2)))) : Int).toNat).drop (x8_2 : Int).toNat))] (fun _ => True) (fun _ => False) rfl rfl ?aP (fun _ hk => hk.elim) ?aF ?aO ?aB ?aS ?aL ?_; (case aP => exact rfl); (case aB => exact (by repeat (first | (with_reducible first | exact HB.out | apply zc | apply zb | apply zd) | exact HB.out))); (case aF => exact (fun _ _ => trivial)); (case aO => exact (by (with_reducible repeat (first | apply Kd.R_alloc | apply Kd.R_drewN | apply Kd.R_drew)); exact zk.out)); (case aS => exact (ze (by repeat (first | (with_reducible first | exact HB.out | apply zc | apply zb | apply zd) | exact HB.out)))); (case aL => have := LMc26.out; omega); intro v127 w36 ho hb hg hat; rw [← Ny126.out] at ho; have n0_ := Aside0.mk (Kd.R_over' (by (with_reducible repeat (first | apply Kd.R_alloc | apply Kd.R_drewN | apply Kd.R_drew)); exact zi.out) (Kd.R_typed (by (with_reducible repeat (first | apply Kd.R_alloc | apply Kd.R_drewN | apply Kd.R_drew)); exact zk.out)) (by decide) hg); have n1_ := Aside0.mk (Kd.R_over' (by (with_reducible repeat (first | apply Kd.R_alloc | apply Kd.R_drewN | apply Kd.R_drew)); exact zj.out) (Kd.R_typed (by (with_reducible repeat (first | apply Kd.R_alloc | apply Kd.R_drewN | apply Kd.R_drew)); exact zk.out)) (by decide) hg); have n2_ := Aside0.mk (Kd.R_over' (by (with_reducible repeat (first | apply Kd.R_alloc | apply Kd.R_drewN | apply Kd.R_drew)); exact zn.out) (Kd.R_typed (by (with_reducible repeat (first | apply Kd.R_alloc | apply Kd.R_drewN | apply Kd.R_drew)); exact zk.out)) (by decide) hg); have n3_ := Aside0.mk (hb); have n4_ := Aside0.mk (ho); clear zi; clear zj; clear zn; clear HB; clear zk; have zi := n0_; have zj := n1_; have zn := n2_; have HB := n3_; have zu := n4_; clear n0_ n1_ n2_ n3_ n4_; clear ho hb hg hat) | ((with_reducible refine zg (b := .append) (xs := #[.tmp 83, .tmp 84]) rfl ?_); (try (refine zf (by rfl) ?_; dsimp only)); at_builtin; refine Kd.R_append_rows (Kd.int .u8) (w0 := w) w.heap.size rfl (.tmp 83) (.tmp 84) 22 5 (.int .u8 0) 1 rfl Try.underlying22 info5 rfl (by decide) (by omega) u6 x6_2 t122 _ _ _ (fun k_ => some k_ ≠ (.slice Ao33 t122.length co33 : Value).ownBlock) (fun _ => False) rfl rfl ?aO ?aR (fun _ _ h => h) (fun _ h => h.elim) ?aF ?aB ?aS ?aL ?_; (case aR => repeat (first | exact (Kd.R_reads' zn.out).2.2 | (with_reducible refine Kd.C_alloc ?_ _) | (with_reducible refine Kd.C_drewN ?_ _) | (with_reducible refine Kd.C_drew ?_))); (case aB => exact (by repeat (first | (with_reducible first | exact HB.out | apply zc | apply zb | apply zd) | exact HB.out))); (case aF => exact (fun k_ hk => Kd.fresh' (Kd.R_lt (by (with_reducible repeat (first | apply Kd.R_alloc | apply Kd.R_drewN | apply Kd.R_drew)); exact zn.out)) k_ hk)); (case aO => exact (by (with_reducible repeat (first | apply Kd.R_alloc | apply Kd.R_drewN | apply Kd.R_drew)); exact Kd.R_mono zi.out (fun _ hk => hk.2))); (case aS => exact (ze (by repeat (first | (with_reducible first | exact HB.out | apply zc | apply zb | apply zd) | exact HB.out)))); (case aL => have := LMc27.out; omega); intro v130 w37 ho hb hg hat; rw [← Ny129.out] at ho; have n0_ := Aside0.mk (Kd.R_over' (by (with_reducible repeat (first | apply Kd.R_alloc | apply Kd.R_drewN | apply Kd.R_drew)); exact zj.out) (Kd.R_typed (by (with_reducible repeat (first | apply Kd.R_alloc | apply Kd.R_drewN | apply Kd.R_drew)); exact zi.out)) (by decide) hg); have n1_ := Aside0.mk (Kd.R_after (ok := (fun _ => True)) (by (with_reducible repeat (first | apply Kd.R_alloc | apply Kd.R_drewN | apply Kd.R_drew)); exact zn.out) hg hat); have n2_ := Aside0.mk (Kd.R_over' (by (with_reducible repeat (first | apply Kd.R_alloc | apply Kd.R_drewN | apply Kd.R_drew)); exact zu.out) (Kd.R_typed (by (with_reducible repeat (first | apply Kd.R_alloc | apply Kd.R_drewN | apply Kd.R_drew)); exact zi.out)) (by decide) hg); have n3_ := Aside0.mk (hb); have n4_ := Aside0.mk (ho); clear zj; clear zn; clear zu; clear HB; clear zi; have zj := n0_; have zn := n1_; have zu := n2_; have HB := n3_; have zz := n4_; clear n0_ n1_ n2_ n3_ n4_; clear ho hb hg hat; obtain ⟨Ao38, co38, eo38⟩ := Kd.R_slice zz.out; subst eo38) | ((with_reducible refine zg (b := .append) (xs := #[.tmp 86, .tmp 89]) rfl ?_); (try (refine zf (by rfl) ?_; dsimp only)); at_builtin; refine Kd.R_append (Kd.int .i64) (w0 := w) w.heap.size rfl (.tmp 86) (.tmp 89) 47 3 (.int .i64 0) 8 rfl Try.underlying47 info3 rfl (by decide) (by omega) u7 x7_2 (y129.length : Int) [.int .i64 (y129.length : Int)] (fun _ => True) (fun _ => False) rfl rfl ?aP (fun _ hk => hk.elim) ?aF ?aO ?aB ?aS ?aL ?_; (case aP => exact rfl); (case aB => exact (by repeat (first | (with_reducible first | exact HB.out | apply zc | apply zb | apply zd) | exact HB.out))); (case aF => exact (fun _ _ => trivial)); (case aO => exact (by (with_reducible repeat (first | apply Kd.R_alloc | apply Kd.R_drewN | apply Kd.R_drew)); exact zj.out)); (case aS => exact (ze (by repeat (first | (with_reducible first | exact HB.out | apply zc | apply zb | apply zd) | exact HB.out)))); (case aL => have := LMc28.out; omega); intro v133 w39 ho hb hg hat; rw [← Ny132.out] at ho; have n0_ := Aside0.mk (Kd.R_over' (by (with_reducible repeat (first | apply Kd.R_alloc | apply Kd.R_drewN | apply Kd.R_drew)); exact zn.out) (Kd.R_typed (by (with_reducible repeat (first | apply Kd.R_alloc | apply Kd.R_drewN | apply Kd.R_drew)); exact zj.out)) (by decide) hg); have n1_ := Aside0.mk (Kd.R_over' (by (with_reducible repeat (first | apply Kd.R_alloc | apply Kd.R_drewN | apply Kd.R_drew)); exact zu.out) (Kd.R_typed (by (with_reducible repeat (first | apply Kd.R_alloc | apply Kd.R_drewN | apply Kd.R_drew)); exact zj.out)) (by decide) hg); have n2_ := Aside0.mk (Kd.R_over' (by (with_reducible repeat (first | apply Kd.R_alloc | apply Kd.R_drewN | apply Kd.R_drew)); exact zz.out) (Kd.R_typed (by (with_reducible repeat (first | apply Kd.R_alloc | apply Kd.R_drewN | apply Kd.R_drew)); exact zj.out)) (by decide) hg); have n3_ := Aside0.mk (hb); have n4_ := Aside0.mk (ho); clear zn; clear zu; clear zz; clear HB; clear zj; have zn := n0_; have zu := n1_; have zz := n2_; have HB := n3_; have zT := n4_; clear n0_ n1_ n2_ n3_ n4_; clear ho hb hg hat)))
                  go_roundg kj11
                  case measure => have := HJ2.out; have := HK2.out; have := HJ11.out; omega
                  case rel => exact ⟨(y126), (y129), (y132), (wrap64 (x8_2 + (wrap64 ((l0.length : Int) - x8_2)))), (by first | rfl | (simp; done) | (simp [*]; done)), H', ⟨by have := HJ2.out; have := HK2.out; have := HJ11.out; omega⟩, ⟨by (with_reducible repeat (first | apply Kd.R_alloc | apply Kd.R_drewN | apply Kd.R_drew)); exact zu.out⟩, ⟨by (with_reducible repeat (first | apply Kd.R_alloc | apply Kd.R_drewN | apply Kd.R_drew)); exact Kd.R_mono zz.out (fun _ hk => trivial)⟩, ⟨by (with_reducible repeat (first | apply Kd.R_alloc | apply Kd.R_drewN | apply Kd.R_drew)); exact zT.out⟩, ⟨by repeat (first | (with_reducible first | exact HB.out | apply zc | apply zb | apply zd) | exact HB.out)⟩⟩
                ·rw [if_neg c28] at H
                 exact absurd H (by simp)
               ·rw [if_neg c27] at H
                exact absurd H (by simp)
              ·rw [if_neg c26] at H
               exact absurd H (by simp)
             ·rw [if_neg c22] at H
              have c22b0 : ((t122.length : Int) == (wrap64 (2 + (wrap64 (Int.tdiv (wrap64 ((wrap64 (8 * (wrap64 ((l0.length : Int) - x8_2)))) + 6)) 7))))) = false := beq_eq_false_iff_ne.mpr c22
              have c22b1 : ((t122.length : Int) != (wrap64 (2 + (wrap64 (Int.tdiv (wrap64 ((wrap64 (8 * (wrap64 ((l0.length : Int) - x8_2)))) + 6)) 7))))) = true := bne_iff_ne.mpr c22
              exact absurd H (by simp)
            ·rw [if_neg c20] at H
             exact absurd H (by simp)
           ·rw [if_neg c19] at H
            exact absurd H (by simp)
          ·rw [if_neg c18] at H
           exact absurd H (by simp)
         ·rw [if_neg c17] at H
          have c17b0 : decide ((l0.length : Int) < (wrap64 (x8_2 + (wrap64 (1 + t120))))) = false := decide_eq_false c17
          clear c17
          by_cases c45 : 0 ≤ x8_2
          ·rw [if_pos c45] at H
           have c45b0 := eq_true c45
           have c45b1 : decide (0 ≤ x8_2) = true := decide_eq_true c45
           clear c45
           by_cases c46 : x8_2 ≤ (wrap64 (x8_2 + (wrap64 (1 + t120))))
           ·rw [if_pos c46] at H
            have c46b0 := eq_true c46
            have c46b1 : decide (x8_2 ≤ (wrap64 (x8_2 + (wrap64 (1 + t120))))) = true := decide_eq_true c46
            by_cases c47 : (wrap64 (x8_2 + (wrap64 (1 + t120)))) ≤ (l0.length : Int)
            ·rw [if_pos c47] at H
             have c47b0 := eq_true c47
             have c47b1 : decide ((wrap64 (x8_2 + (wrap64 (1 + t120)))) ≤ (l0.length : Int)) = true := decide_eq_true c47
             replace H := Option.bind_eq_some_iff.mp H
             obtain ⟨t136, A480, H⟩ := H
             replace H : (if (t136.length : Int) = (wrap64 (2 + (wrap64 (Int.tdiv (wrap64 ((wrap64 (8 * (wrap64 (1 + t120)))) + 6)) 7)))) then (if x5_2.length < 8796093022208 then (if x6_2.length + t136.length < 140737488355328 then ((some (x6_2 ++ t136 : List Int)).bind fun y143 => (if x7_2.length < 17592186044416 then (laws_FnTornLog.l0 kj11 l0 l1 (x5_2 ++ [strOfNums ((l0.take ((wrap64 (x8_2 + (wrap64 (1 + t120)))) : Int).toNat).drop (x8_2 : Int).toNat)]) y143 (x7_2 ++ [(y143.length : Int)]) (wrap64 (x8_2 + (wrap64 (1 + t120))))) else (none))) else (none)) else (none)) else none) = some r := H
             have A48 := Aside0.mk A480
             clear A480
             by_cases c49 : (t136.length : Int) = (wrap64 (2 + (wrap64 (Int.tdiv (wrap64 ((wrap64 (8 * (wrap64 (1 + t120)))) + 6)) 7))))
             ·rw [if_pos c49] at H
              have c49b0 : ((t136.length : Int) == (wrap64 (2 + (wrap64 (Int.tdiv (wrap64 ((wrap64 (8 * (wrap64 (1 + t120)))) + 6)) 7))))) = true := beq_iff_eq.mpr c49
              have c49b1 : ((t136.length : Int) != (wrap64 (2 + (wrap64 (Int.tdiv (wrap64 ((wrap64 (8 * (wrap64 (1 + t120)))) + 6)) 7))))) = false := bne_eq_false_iff_eq.mpr c49
              clear c49
              have c50b0 := eq_true (of_decide_eq_true (by first | (with_reducible assumption) | assumption) : 0 ≤ x8_2)
              have c51b0 := eq_true (of_decide_eq_true (by first | (with_reducible assumption) | assumption) : x8_2 ≤ (wrap64 (x8_2 + (wrap64 (1 + t120)))))
              have c52b0 := eq_true (of_decide_eq_true (by first | (with_reducible assumption) | assumption) : (wrap64 (x8_2 + (wrap64 (1 + t120)))) ≤ (l0.length : Int))
              by_cases c53 : x5_2.length < 8796093022208
              ·rw [if_pos c53] at H
               have LMc53 := Aside0.mk c53
               clear c53
               obtain ⟨y140, hy140⟩ : ∃ y_ : List ByteArray, y_ = (x5_2 ++ [strOfNums ((l0.take ((wrap64 (x8_2 + (wrap64 (1 + t120)))) : Int).toNat).drop (x8_2 : Int).toNat)]) := ⟨_, rfl⟩
               replace H : (if x6_2.length + t136.length < 140737488355328 then ((some (x6_2 ++ t136 : List Int)).bind fun y143 => (if x7_2.length < 17592186044416 then (laws_FnTornLog.l0 kj11 l0 l1 y140 y143 (x7_2 ++ [(y143.length : Int)]) (wrap64 (x8_2 + (wrap64 (1 + t120))))) else (none))) else (none)) = some r := by first | (rw [hy140]; with_reducible exact H) | (have H2_ := (Option.bind_some _ _).symm.trans H; rw [hy140]; with_reducible exact H2_) | (have H2_ := (Option.bind_some _ _).symm.trans H; with_reducible exact H2_) | with_reducible exact H | (rw [hy140]; exact H) | exact H
               have Ny140 := Aside0.mk hy140
               clear hy140
               by_cases c54 : x6_2.length + t136.length < 140737488355328
               ·rw [if_pos c54] at H
                have LMc54 := Aside0.mk c54
                clear c54
                obtain ⟨y143, hy143⟩ : ∃ y_ : List Int, y_ = (x6_2 ++ t136) := ⟨_, rfl⟩
                replace H : (if x7_2.length < 17592186044416 then (laws_FnTornLog.l0 kj11 l0 l1 y140 y143 (x7_2 ++ [(y143.length : Int)]) (wrap64 (x8_2 + (wrap64 (1 + t120))))) else (none)) = some r := by first | (rw [hy143]; with_reducible exact H) | (have H2_ := (Option.bind_some _ _).symm.trans H; rw [hy143]; with_reducible exact H2_) | (have H2_ := (Option.bind_some _ _).symm.trans H; with_reducible exact H2_) | with_reducible exact H | (rw [hy143]; exact H) | exact H
                have Ny143 := Aside0.mk hy143
                clear hy143
                by_cases c55 : x7_2.length < 17592186044416
                ·as_aux_lemma =>
                  rw [if_pos c55] at H
                  have LMc55 := Aside0.mk c55
                  clear c55
                  obtain ⟨y146, hy146⟩ : ∃ y_ : List Int, y_ = (x7_2 ++ [(y143.length : Int)]) := ⟨_, rfl⟩
                  replace H : (laws_FnTornLog.l0 kj11 l0 l1 y140 y143 y146 (wrap64 (x8_2 + (wrap64 (1 + t120))))) = some r := by first | (rw [hy146]; with_reducible exact H) | (have H2_ := (Option.bind_some _ _).symm.trans H; rw [hy146]; with_reducible exact H2_) | (have H2_ := (Option.bind_some _ _).symm.trans H; with_reducible exact H2_) | with_reducible exact H | (rw [hy146]; exact H) | exact H
                  have Ny146 := Aside0.mk hy146
                  clear hy146
                  have H' := Aside0.mk H
                  clear H
                  obtain ⟨Ao56, co56, eo56⟩ := Kd.R_slice zk.out
                  subst eo56
                  have hcB_ : ∀ (y : ByteArray) (W : World), (convert 9 22 (.string y)).run Try.prog W = .ok (.slice (some ⟨W.heap.size, 0, none⟩) y.size (grownCap W y.size 0 5)) (Lib.bytesWorld W 5 y) := fun y W => print_bytes 9 22 5 Try.underlying9 Try.underlying22 Try.underlying5 y W
                  go_wp2_with (first | (go_at_call 23; (with_reducible refine (laws_lwAt.calls _ _ l1 (x5_2.length : Int) 20 t120 _ ?side1 ?side2 A16.out).mono ?_); (case side1 => repeat (first | exact (Kd.C_below HR1.out HB.out) | (with_reducible refine Kd.C_alloc ?_ _) | (with_reducible refine Kd.C_drewN ?_ _) | (with_reducible refine Kd.C_drew ?_))); (case side2 => exact HC1.out); rintro e w' ⟨rfl, ⟨nd, rfl⟩⟩; (try first | exact ⟨rfl, _, World.drewN_drewN _ _ _⟩ | exact ⟨rfl, _, Eq.trans (World.drewN_drewN _ _ _) (congrArg (World.drewN _) (Nat.add_assoc _ _ _))⟩); obtain ⟨i057, hi057, _, hsz57, _⟩ := info_parts info5; obtain ⟨A57, hcut57, hA57, hC57⟩ := print_mid_of (P := Try.prog) (Value.int .u8) 0 22 5 .i64 .i64 Try.underlying22 hi057 hsz57 A0 c0 l0 x8_2 (wrap64 (x8_2 + (wrap64 (1 + t120)))) (of_decide_eq_true (by first | (with_reducible assumption) | assumption)) (by first | omega | exact of_decide_eq_true (by first | (with_reducible assumption) | assumption)) (of_decide_eq_true (by first | (with_reducible assumption) | assumption)) HC0.out; have HR135 := Aside0.mk (Kd.C_of_reads (h1 := fun _ => rfl) (hA57 _ (Kd.reads_of_C HR0.out))); have HC135 := Aside0.mk hC57; clear hA57 hC57 hi057 hsz57; have hcv58 := Kd.C_string (P := Try.prog) (A := A57) (c := (c0 - x8_2.toNat)) Try.underlying22 Try.underlying5 Try.underlying9 (Kd.C_below HR135.out HB.out); have hcv58d := fun m_ : Nat => Kd.C_string (P := Try.prog) (A := A57) (c := (c0 - x8_2.toNat)) Try.underlying22 Try.underlying5 Try.underlying9 (Kd.C_drewN (Kd.C_below HR135.out HB.out) m_); have hcl_ := cut_len_ l0 x8_2 (wrap64 (x8_2 + (wrap64 (1 + t120)))) (of_decide_eq_true (by first | (with_reducible assumption) | assumption)); rw [hcl_] at hcv58; simp only [hcl_] at hcv58d; clear hcl_) | (go_at_call 24; (with_reducible refine (frame_conv_calls _ _ ?hw_ ((l0.take ((wrap64 (x8_2 + (wrap64 (1 + t120)))) : Int).toNat).drop (x8_2 : Int).toNat) t136 ?hm_ A48.out).mono ?_); (case hw_ => rfl); (case hm_ => rw [strOfNums_size]; exact Kd.C_max HR135.out); rintro e w59 ⟨v137, rfl, zq, hb⟩; have n0_ := Aside0.mk (Kd.R_below (by (with_reducible repeat (first | apply Kd.R_alloc | apply Kd.R_drewN | apply Kd.R_drew)); exact zk.out) hb); have n1_ := Aside0.mk (Kd.R_elder' (by (with_reducible repeat (first | apply Kd.R_alloc | apply Kd.R_drewN | apply Kd.R_drew)); exact zi.out) (Kd.R_base zq) hb); have n2_ := Aside0.mk (Kd.R_below (by (with_reducible repeat (first | apply Kd.R_alloc | apply Kd.R_drewN | apply Kd.R_drew)); exact zj.out) hb); have n3_ := Aside0.mk (Kd.R_lower (Kd.R_new' zq (Kd.R_lt (by (with_reducible repeat (first | apply Kd.R_alloc | apply Kd.R_drewN | apply Kd.R_drew)); exact zi.out))) (ze (by repeat (first | (with_reducible first | exact HB.out | apply zc | apply zb | apply zd) | exact HB.out)))); have n4_ := Aside0.mk (zh (by repeat (first | (with_reducible first | exact HB.out | apply zc | apply zb | apply zd) | exact HB.out)) hb); clear zk; clear zi; clear zj; clear HB; have zk := n0_; have zi := n1_; have zj := n2_; have zo := n3_; have HB := n4_; clear n0_ n1_ n2_ n3_ n4_; (try clear hb); (try clear hb2); (try clear hk); (try clear hi); (try clear zq); obtain ⟨Ao60, co60, eo60⟩ := Kd.R_slice zo.out; subst eo60; obtain ⟨i061, hi061, _, hsz61, _⟩ := info_parts info5; obtain ⟨A61, hcut61, hA61, hC61⟩ := print_mid_of (P := Try.prog) (Value.int .u8) 0 22 5 .i64 .i64 Try.underlying22 hi061 hsz61 A0 c0 l0 x8_2 (wrap64 (x8_2 + (wrap64 (1 + t120)))) (of_decide_eq_true (by first | (with_reducible assumption) | assumption)) (by first | omega | exact of_decide_eq_true (by first | (with_reducible assumption) | assumption)) (of_decide_eq_true (by first | (with_reducible assumption) | assumption)) HC0.out; have HR139 := Aside0.mk (Kd.C_of_reads (h1 := fun _ => rfl) (hA61 _ (Kd.reads_of_C HR0.out))); have HC139 := Aside0.mk hC61; clear hA61 hC61 hi061 hsz61; have hcv62 := Kd.C_string (P := Try.prog) (A := A61) (c := (c0 - x8_2.toNat)) Try.underlying22 Try.underlying5 Try.underlying9 (Kd.C_below HR139.out HB.out); have hcv62d := fun m_ : Nat => Kd.C_string (P := Try.prog) (A := A61) (c := (c0 - x8_2.toNat)) Try.underlying22 Try.underlying5 Try.underlying9 (Kd.C_drewN (Kd.C_below HR139.out HB.out) m_); have hcv62e := Kd.C_string (P := Try.prog) (A := A57) (c := (c0 - x8_2.toNat)) Try.underlying22 Try.underlying5 Try.underlying9 (Kd.C_below HR135.out HB.out); rw [cut_len_ l0 x8_2 (wrap64 (x8_2 + (wrap64 (1 + t120)))) (of_decide_eq_true (by first | (with_reducible assumption) | assumption))] at hcv62e; have hcl_ := cut_len_ l0 x8_2 (wrap64 (x8_2 + (wrap64 (1 + t120)))) (of_decide_eq_true (by first | (with_reducible assumption) | assumption)); rw [hcl_] at hcv62; simp only [hcl_] at hcv62d; clear hcl_) | ((with_reducible refine zg (b := .append) (xs := #[.tmp 73, .tmp 81]) rfl ?_); (try (refine zf (by rfl) ?_; dsimp only)); at_builtin; refine Kd.R_append Kd.string (w0 := w) w.heap.size rfl (.tmp 73) (.tmp 81) 46 9 (.string ⟨#[]⟩) 16 rfl Try.underlying46 info9 rfl (by decide) (by omega) (.slice Ao56 x5_2.length co56) x5_2 (strOfNums ((l0.take ((wrap64 (x8_2 + (wrap64 (1 + t120)))) : Int).toNat).drop (x8_2 : Int).toNat)) [.string (strOfNums ((l0.take ((wrap64 (x8_2 + (wrap64 (1 + t120)))) : Int).toNat).drop (x8_2 : Int).toNat))] (fun _ => True) (fun _ => False) rfl rfl ?aP (fun _ hk => hk.elim) ?aF ?aO ?aB ?aS ?aL ?_; (case aP => exact rfl); (case aB => exact (by repeat (first | (with_reducible first | exact HB.out | apply zc | apply zb | apply zd) | exact HB.out))); (case aF => exact (fun _ _ => trivial)); (case aO => exact (by (with_reducible repeat (first | apply Kd.R_alloc | apply Kd.R_drewN | apply Kd.R_drew)); exact zk.out)); (case aS => exact (ze (by repeat (first | (with_reducible first | exact HB.out | apply zc | apply zb | apply zd) | exact HB.out)))); (case aL => have := LMc53.out; omega); intro v141 w63 ho hb hg hat; rw [← Ny140.out] at ho; have n0_ := Aside0.mk (Kd.R_over' (by (with_reducible repeat (first | apply Kd.R_alloc | apply Kd.R_drewN | apply Kd.R_drew)); exact zi.out) (Kd.R_typed (by (with_reducible repeat (first | apply Kd.R_alloc | apply Kd.R_drewN | apply Kd.R_drew)); exact zk.out)) (by decide) hg); have n1_ := Aside0.mk (Kd.R_over' (by (with_reducible repeat (first | apply Kd.R_alloc | apply Kd.R_drewN | apply Kd.R_drew)); exact zj.out) (Kd.R_typed (by (with_reducible repeat (first | apply Kd.R_alloc | apply Kd.R_drewN | apply Kd.R_drew)); exact zk.out)) (by decide) hg); have n2_ := Aside0.mk (Kd.R_over' (by (with_reducible repeat (first | apply Kd.R_alloc | apply Kd.R_drewN | apply Kd.R_drew)); exact zo.out) (Kd.R_typed (by (with_reducible repeat (first | apply Kd.R_alloc | apply Kd.R_drewN | apply Kd.R_drew)); exact zk.out)) (by decide) hg); have n3_ := Aside0.mk (hb); have n4_ := Aside0.mk (ho); clear zi; clear zj; clear zo; clear HB; clear zk; have zi := n0_; have zj := n1_; have zo := n2_; have HB := n3_; have zv := n4_; clear n0_ n1_ n2_ n3_ n4_; clear ho hb hg hat) | ((with_reducible refine zg (b := .append) (xs := #[.tmp 83, .tmp 84]) rfl ?_); (try (refine zf (by rfl) ?_; dsimp only)); at_builtin; refine Kd.R_append_rows (Kd.int .u8) (w0 := w) w.heap.size rfl (.tmp 83) (.tmp 84) 22 5 (.int .u8 0) 1 rfl Try.underlying22 info5 rfl (by decide) (by omega) u6 x6_2 t136 _ _ _ (fun k_ => some k_ ≠ (.slice Ao60 t136.length co60 : Value).ownBlock) (fun _ => False) rfl rfl ?aO ?aR (fun _ _ h => h) (fun _ h => h.elim) ?aF ?aB ?aS ?aL ?_; (case aR => repeat (first | exact (Kd.R_reads' zo.out).2.2 | (with_reducible refine Kd.C_alloc ?_ _) | (with_reducible refine Kd.C_drewN ?_ _) | (with_reducible refine Kd.C_drew ?_))); (case aB => exact (by repeat (first | (with_reducible first | exact HB.out | apply zc | apply zb | apply zd) | exact HB.out))); (case aF => exact (fun k_ hk => Kd.fresh' (Kd.R_lt (by (with_reducible repeat (first | apply Kd.R_alloc | apply Kd.R_drewN | apply Kd.R_drew)); exact zo.out)) k_ hk)); (case aO => exact (by (with_reducible repeat (first | apply Kd.R_alloc | apply Kd.R_drewN | apply Kd.R_drew)); exact Kd.R_mono zi.out (fun _ hk => hk.2))); (case aS => exact (ze (by repeat (first | (with_reducible first | exact HB.out | apply zc | apply zb | apply zd) | exact HB.out)))); (case aL => have := LMc54.out; omega); intro v144 w64 ho hb hg hat; rw [← Ny143.out] at ho; have n0_ := Aside0.mk (Kd.R_over' (by (with_reducible repeat (first | apply Kd.R_alloc | apply Kd.R_drewN | apply Kd.R_drew)); exact zj.out) (Kd.R_typed (by (with_reducible repeat (first | apply Kd.R_alloc | apply Kd.R_drewN | apply Kd.R_drew)); exact zi.out)) (by decide) hg); have n1_ := Aside0.mk (Kd.R_after (ok := (fun _ => True)) (by (with_reducible repeat (first | apply Kd.R_alloc | apply Kd.R_drewN | apply Kd.R_drew)); exact zo.out) hg hat); have n2_ := Aside0.mk (Kd.R_over' (by (with_reducible repeat (first | apply Kd.R_alloc | apply Kd.R_drewN | apply Kd.R_drew)); exact zv.out) (Kd.R_typed (by (with_reducible repeat (first | apply Kd.R_alloc | apply Kd.R_drewN | apply Kd.R_drew)); exact zi.out)) (by decide) hg); have n3_ := Aside0.mk (hb); have n4_ := Aside0.mk (ho); clear zj; clear zo; clear zv; clear HB; clear zi; have zj := n0_; have zo := n1_; have zv := n2_; have HB := n3_; have zA := n4_; clear n0_ n1_ n2_ n3_ n4_; clear ho hb hg hat; obtain ⟨Ao65, co65, eo65⟩ := Kd.R_slice zA.out; subst eo65) | ((with_reducible refine zg (b := .append) (xs := #[.tmp 86, .tmp 89]) rfl ?_); (try (refine zf (by rfl) ?_; dsimp only)); at_builtin; refine Kd.R_append (Kd.int .i64) (w0 := w) w.heap.size rfl (.tmp 86) (.tmp 89) 47 3 (.int .i64 0) 8 rfl Try.underlying47 info3 rfl (by decide) (by omega) u7 x7_2 (y143.length : Int) [.int .i64 (y143.length : Int)] (fun _ => True) (fun _ => False) rfl rfl ?aP (fun _ hk => hk.elim) ?aF ?aO ?aB ?aS ?aL ?_; (case aP => exact rfl); (case aB => exact (by repeat (first | (with_reducible first | exact HB.out | apply zc | apply zb | apply zd) | exact HB.out))); (case aF => exact (fun _ _ => trivial)); (case aO => exact (by (with_reducible repeat (first | apply Kd.R_alloc | apply Kd.R_drewN | apply Kd.R_drew)); exact zj.out)); (case aS => exact (ze (by repeat (first | (with_reducible first | exact HB.out | apply zc | apply zb | apply zd) | exact HB.out)))); (case aL => have := LMc55.out; omega); intro v147 w66 ho hb hg hat; rw [← Ny146.out] at ho; have n0_ := Aside0.mk (Kd.R_over' (by (with_reducible repeat (first | apply Kd.R_alloc | apply Kd.R_drewN | apply Kd.R_drew)); exact zo.out) (Kd.R_typed (by (with_reducible repeat (first | apply Kd.R_alloc | apply Kd.R_drewN | apply Kd.R_drew)); exact zj.out)) (by decide) hg); have n1_ := Aside0.mk (Kd.R_over' (by (with_reducible repeat (first | apply Kd.R_alloc | apply Kd.R_drewN | apply Kd.R_drew)); exact zv.out) (Kd.R_typed (by (with_reducible repeat (first | apply Kd.R_alloc | apply Kd.R_drewN | apply Kd.R_drew)); exact zj.out)) (by decide) hg); have n2_ := Aside0.mk (Kd.R_over' (by (with_reducible repeat (first | apply Kd.R_alloc | apply Kd.R_drewN | apply Kd.R_drew)); exact zA.out) (Kd.R_typed (by (with_reducible repeat (first | apply Kd.R_alloc | apply Kd.R_drewN | apply Kd.R_drew)); exact zj.out)) (by decide) hg); have n3_ := Aside0.mk (hb); have n4_ := Aside0.mk (ho); clear zo; clear zv; clear zA; clear HB; clear zj; have zo := n0_; have zv := n1_; have zA := n2_; have HB := n3_; have zU := n4_; clear n0_ n1_ n2_ n3_ n4_; clear ho hb hg hat))
                  repeat (go_quiet (first | (go_at_call 23; (with_reducible refine (laws_lwAt.calls _ _ l1 (x5_2.length : Int) 20 t120 _ ?side1 ?side2 A16.out).mono ?_); (case side1 => repeat (first | exact (Kd.C_below HR1.out HB.out) | (with_reducible refine Kd.C_alloc ?_ _) | (with_reducible refine Kd.C_drewN ?_ _) | (with_reducible refine Kd.C_drew ?_))); (case side2 => exact HC1.out); rintro e w' ⟨rfl, ⟨nd, rfl⟩⟩; (try first | exact ⟨rfl, _, World.drewN_drewN _ _ _⟩ | exact ⟨rfl, _, Eq.trans (World.drewN_drewN _ _ _) (congrArg (World.drewN _) (Nat.add_assoc _ _ _))⟩); obtain ⟨i057, hi057, _, hsz57, _⟩ := info_parts info5; obtain ⟨A57, hcut57, hA57, hC57⟩ := print_mid_of (P := Try.prog) (Value.int .u8) 0 22 5 .i64 .i64 Try.underlying22 hi057 hsz57 A0 c0 l0 x8_2 (wrap64 (x8_2 + (wrap64 (1 + t120)))) (of_decide_eq_true (by first | (with_reducible assumption) | assumption)) (by first | omega | exact of_decide_eq_true (by first | (with_reducible assumption) | assumption)) (of_decide_eq_true (by first | (with_reducible assumption) | assumption)) HC0.out; have HR135 := Aside0.mk (Kd.C_of_reads (h1 := fun _ => rfl) (hA57 _ (Kd.reads_of_C HR0.out))); have HC135 := Aside0.mk hC57; clear hA57 hC57 hi057 hsz57; have hcv58 := Kd.C_string (P := Try.prog) (A := A57) (c := (c0 - x8_2.toNat)) Try.underlying22 Try.underlying5 Try.underlying9 (Kd.C_below HR135.out HB.out); have hcv58d := fun m_ : Nat => Kd.C_string (P := Try.prog) (A := A57) (c := (c0 - x8_2.toNat)) Try.underlying22 Try.underlying5 Try.underlying9 (Kd.C_drewN (Kd.C_below HR135.out HB.out) m_); have hcl_ := cut_len_ l0 x8_2 (wrap64 (x8_2 + (wrap64 (1 + t120)))) (of_decide_eq_true (by first | (with_reducible assumption) | assumption)); rw [hcl_] at hcv58; simp only [hcl_] at hcv58d; clear hcl_) | (go_at_call 24; (with_reducible refine (frame_conv_calls _ _ ?hw_ ((l0.take ((wrap64 (x8_2 + (wrap64 (1 + t120)))) : Int).toNat).drop (x8_2 : Int).toNat) t136 ?hm_ A48.out).mono ?_); (case hw_ => rfl); (case hm_ => rw [strOfNums_size]; exact Kd.C_max HR135.out); rintro e w59 ⟨v137, rfl, zq, hb⟩; have n0_ := Aside0.mk (Kd.R_below (by (with_reducible repeat (first | apply Kd.R_alloc | apply Kd.R_drewN | apply Kd.R_drew)); exact zk.out) hb); have n1_ := Aside0.mk (Kd.R_elder' (by (with_reducible repeat (first | apply Kd.R_alloc | apply Kd.R_drewN | apply Kd.R_drew)); exact zi.out) (Kd.R_base zq) hb); have n2_ := Aside0.mk (Kd.R_below (by (with_reducible repeat (first | apply Kd.R_alloc | apply Kd.R_drewN | apply Kd.R_drew)); exact zj.out) hb); have n3_ := Aside0.mk (Kd.R_lower (Kd.R_new' zq (Kd.R_lt (by (with_reducible repeat (first | apply Kd.R_alloc | apply Kd.R_drewN | apply Kd.R_drew)); exact zi.out))) (ze (by repeat (first | (with_reducible first | exact HB.out | apply zc | apply zb | apply zd) | exact HB.out)))); have n4_ := Aside0.mk (zh (by repeat (first | (with_reducible first | exact HB.out | apply zc | apply zb | apply zd) | exact HB.out)) hb); clear zk; clear zi; clear zj; clear HB; have zk := n0_; have zi := n1_; have zj := n2_; have zo := n3_; have HB := n4_; clear n0_ n1_ n2_ n3_ n4_; (try clear hb); (try clear hb2); (try clear hk); (try clear hi); (try clear zq); obtain ⟨Ao60, co60, eo60⟩ := Kd.R_slice zo.out; subst eo60; obtain ⟨i061, hi061, _, hsz61, _⟩ := info_parts info5; obtain ⟨A61, hcut61, hA61, hC61⟩ := print_mid_of (P := Try.prog) (Value.int .u8) 0 22 5 .i64 .i64 Try.underlying22 hi061 hsz61 A0 c0 l0 x8_2 (wrap64 (x8_2 + (wrap64 (1 + t120)))) (of_decide_eq_true (by first | (with_reducible assumption) | assumption)) (by first | omega | exact of_decide_eq_true (by first | (with_reducible assumption) | assumption)) (of_decide_eq_true (by first | (with_reducible assumption) | assumption)) HC0.out; have HR139 := Aside0.mk (Kd.C_of_reads (h1 := fun _ => rfl) (hA61 _ (Kd.reads_of_C HR0.out))); have HC139 := Aside0.mk hC61; clear hA61 hC61 hi061 hsz61; have hcv62 := Kd.C_string (P := Try.prog) (A := A61) (c := (c0 - x8_2.toNat)) Try.underlying22 Try.underlying5 Try.underlying9 (Kd.C_below HR139.out HB.out); have hcv62d := fun m_ : Nat => Kd.C_string (P := Try.prog) (A := A61) (c := (c0 - x8_2.toNat)) Try.underlying22 Try.underlying5 Try.underlying9 (Kd.C_drewN (Kd.C_below HR139.out HB.out) m_); have hcv62e := Kd.C_string (P := Try.prog) (A := A57) (c := (c0 - x8_2.toNat)) Try.underlying22 Try.underlying5 Try.underlying9 (Kd.C_below HR135.out HB.out); rw [cut_len_ l0 x8_2 (wrap64 (x8_2 + (wrap64 (1 + t120)))) (of_decide_eq_true (by first | (with_reducible assumption) | assumption))] at hcv62e; have hcl_ := cut_len_ l0 x8_2 (wrap64 (x8_2 + (wrap64 (1 + t120)))) (of_decide_eq_true (by first | (with_reducible assumption) | assumption)); rw [hcl_] at hcv62; simp only [hcl_] at hcv62d; clear hcl_) | ((with_reducible refine zg (b := .append) (xs := #[.tmp 73, .tmp 81]) rfl ?_); (try (refine zf (by rfl) ?_; dsimp only)); at_builtin; refine Kd.R_append Kd.string (w0 := w) w.heap.size rfl (.tmp 73) (.tmp 81) 46 9 (.string ⟨#[]⟩) 16 rfl Try.underlying46 info9 rfl (by decide) (by omega) (.slice Ao56 x5_2.length co56) x5_2 (strOfNums ((l0.take ((wrap64 (x8_2 + (wrap64 (1 + t120)))) : Int).toNat).drop (x8_2 : Int).toNat)) [.string (strOfNums ((l0.take ((wrap64 (x8_2 + (wrap64 (1 + t120)))) : Int).toNat).drop (x8_2 : Int).toNat))] (fun _ => True) (fun _ => False) rfl rfl ?aP (fun _ hk => hk.elim) ?aF ?aO ?aB ?aS ?aL ?_; (case aP => exact rfl); (case aB => exact (by repeat (first | (with_reducible first | exact HB.out | apply zc | apply zb | apply zd) | exact HB.out))); (case aF => exact (fun _ _ => trivial)); (case aO => exact (by (with_reducible repeat (first | apply Kd.R_alloc | apply Kd.R_drewN | apply Kd.R_drew)); exact zk.out)); (case aS => exact (ze (by repeat (first | (with_reducible first | exact HB.out | apply zc | apply zb | apply zd) | exact HB.out)))); (case aL => have := LMc53.out; omega); intro v141 w63 ho hb hg hat; rw [← Ny140.out] at ho; have n0_ := Aside0.mk (Kd.R_over' (by (with_reducible repeat (first | apply Kd.R_alloc | apply Kd.R_drewN | apply Kd.R_drew)); exact zi.out) (Kd.R_typed (by (with_reducible repeat (first | apply Kd.R_alloc | apply Kd.R_drewN | apply Kd.R_drew)); exact zk.out)) (by decide) hg); have n1_ := Aside0.mk (Kd.R_over' (by (with_reducible repeat (first | apply Kd.R_alloc | apply Kd.R_drewN | apply Kd.R_drew)); exact zj.out) (Kd.R_typed (by (with_reducible repeat (first | apply Kd.R_alloc | apply Kd.R_drewN | apply Kd.R_drew)); exact zk.out)) (by decide) hg); have n2_ := Aside0.mk (Kd.R_over' (by (with_reducible repeat (first | apply Kd.R_alloc | apply Kd.R_drewN | apply Kd.R_drew)); exact zo.out) (Kd.R_typed (by (with_reducible repeat (first | apply Kd.R_alloc | apply Kd.R_drewN | apply Kd.R_drew)); exact zk.out)) (by decide) hg); have n3_ := Aside0.mk (hb); have n4_ := Aside0.mk (ho); clear zi; clear zj; clear zo; clear HB; clear zk; have zi := n0_; have zj := n1_; have zo := n2_; have HB := n3_; have zv := n4_; clear n0_ n1_ n2_ n3_ n4_; clear ho hb hg hat) | ((with_reducible refine zg (b := .append) (xs := #[.tmp 83, .tmp 84]) rfl ?_); (try (refine zf (by rfl) ?_; dsimp only)); at_builtin; refine Kd.R_append_rows (Kd.int .u8) (w0 := w) w.heap.size rfl (.tmp 83) (.tmp 84) 22 5 (.int .u8 0) 1 rfl Try.underlying22 info5 rfl (by decide) (by omega) u6 x6_2 t136 _ _ _ (fun k_ => some k_ ≠ (.slice Ao60 t136.length co60 : Value).ownBlock) (fun _ => False) rfl rfl ?aO ?aR (fun _ _ h => h) (fun _ h => h.elim) ?aF ?aB ?aS ?aL ?_; (case aR => repeat (first | exact (Kd.R_reads' zo.out).2.2 | (with_reducible refine Kd.C_alloc ?_ _) | (with_reducible refine Kd.C_drewN ?_ _) | (with_reducible refine Kd.C_drew ?_))); (case aB => exact (by repeat (first | (with_reducible first | exact HB.out | apply zc | apply zb | apply zd) | exact HB.out))); (case aF => exact (fun k_ hk => Kd.fresh' (Kd.R_lt (by (with_reducible repeat (first | apply Kd.R_alloc | apply Kd.R_drewN | apply Kd.R_drew)); exact zo.out)) k_ hk)); (case aO => exact (by (with_reducible repeat (first | apply Kd.R_alloc | apply Kd.R_drewN | apply Kd.R_drew)); exact Kd.R_mono zi.out (fun _ hk => hk.2))); (case aS => exact (ze (by repeat (first | (with_reducible first | exact HB.out | apply zc | apply zb | apply zd) | exact HB.out)))); (case aL => have := LMc54.out; omega); intro v144 w64 ho hb hg hat; rw [← Ny143.out] at ho; have n0_ := Aside0.mk (Kd.R_over' (by (with_reducible repeat (first | apply Kd.R_alloc | apply Kd.R_drewN | apply Kd.R_drew)); exact zj.out) (Kd.R_typed (by (with_reducible repeat (first | apply Kd.R_alloc | apply Kd.R_drewN | apply Kd.R_drew)); exact zi.out)) (by decide) hg); have n1_ := Aside0.mk (Kd.R_after (ok := (fun _ => True)) (by (with_reducible repeat (first | apply Kd.R_alloc | apply Kd.R_drewN | apply Kd.R_drew)); exact zo.out) hg hat); have n2_ := Aside0.mk (Kd.R_over' (by (with_reducible repeat (first | apply Kd.R_alloc | apply Kd.R_drewN | apply Kd.R_drew)); exact zv.out) (Kd.R_typed (by (with_reducible repeat (first | apply Kd.R_alloc | apply Kd.R_drewN | apply Kd.R_drew)); exact zi.out)) (by decide) hg); have n3_ := Aside0.mk (hb); have n4_ := Aside0.mk (ho); clear zj; clear zo; clear zv; clear HB; clear zi; have zj := n0_; have zo := n1_; have zv := n2_; have HB := n3_; have zA := n4_; clear n0_ n1_ n2_ n3_ n4_; clear ho hb hg hat; obtain ⟨Ao65, co65, eo65⟩ := Kd.R_slice zA.out; subst eo65) | ((with_reducible refine zg (b := .append) (xs := #[.tmp 86, .tmp 89]) rfl ?_); (try (refine zf (by rfl) ?_; dsimp only)); at_builtin; refine Kd.R_append (Kd.int .i64) (w0 := w) w.heap.size rfl (.tmp 86) (.tmp 89) 47 3 (.int .i64 0) 8 rfl Try.underlying47 info3 rfl (by decide) (by omega) u7 x7_2 (y143.length : Int) [.int .i64 (y143.length : Int)] (fun _ => True) (fun _ => False) rfl rfl ?aP (fun _ hk => hk.elim) ?aF ?aO ?aB ?aS ?aL ?_; (case aP => exact rfl); (case aB => exact (by repeat (first | (with_reducible first | exact HB.out | apply zc | apply zb | apply zd) | exact HB.out))); (case aF => exact (fun _ _ => trivial)); (case aO => exact (by (with_reducible repeat (first | apply Kd.R_alloc | apply Kd.R_drewN | apply Kd.R_drew)); exact zj.out)); (case aS => exact (ze (by repeat (first | (with_reducible first | exact HB.out | apply zc | apply zb | apply zd) | exact HB.out)))); (case aL => have := LMc55.out; omega); intro v147 w66 ho hb hg hat; rw [← Ny146.out] at ho; have n0_ := Aside0.mk (Kd.R_over' (by (with_reducible repeat (first | apply Kd.R_alloc | apply Kd.R_drewN | apply Kd.R_drew)); exact zo.out) (Kd.R_typed (by (with_reducible repeat (first | apply Kd.R_alloc | apply Kd.R_drewN | apply Kd.R_drew)); exact zj.out)) (by decide) hg); have n1_ := Aside0.mk (Kd.R_over' (by (with_reducible repeat (first | apply Kd.R_alloc | apply Kd.R_drewN | apply Kd.R_drew)); exact zv.out) (Kd.R_typed (by (with_reducible repeat (first | apply Kd.R_alloc | apply Kd.R_drewN | apply Kd.R_drew)); exact zj.out)) (by decide) hg); have n2_ := Aside0.mk (Kd.R_over' (by (with_reducible repeat (first | apply Kd.R_alloc | apply Kd.R_drewN | apply Kd.R_drew)); exact zA.out) (Kd.R_typed (by (with_reducible repeat (first | apply Kd.R_alloc | apply Kd.R_drewN | apply Kd.R_drew)); exact zj.out)) (by decide) hg); have n3_ := Aside0.mk (hb); have n4_ := Aside0.mk (ho); clear zo; clear zv; clear zA; clear HB; clear zj; have zo := n0_; have zv := n1_; have zA := n2_; have HB := n3_; have zU := n4_; clear n0_ n1_ n2_ n3_ n4_; clear ho hb hg hat)); try go_wp2_with (first | (go_at_call 23; (with_reducible refine (laws_lwAt.calls _ _ l1 (x5_2.length : Int) 20 t120 _ ?side1 ?side2 A16.out).mono ?_); (case side1 => repeat (first | exact (Kd.C_below HR1.out HB.out) | (with_reducible refine Kd.C_alloc ?_ _) | (with_reducible refine Kd.C_drewN ?_ _) | (with_reducible refine Kd.C_drew ?_))); (case side2 => exact HC1.out); rintro e w' ⟨rfl, ⟨nd, rfl⟩⟩; (try first | exact ⟨rfl, _, World.drewN_drewN _ _ _⟩ | exact ⟨rfl, _, Eq.trans (World.drewN_drewN _ _ _) (congrArg (World.drewN _) (Nat.add_assoc _ _ _))⟩); obtain ⟨i057, hi057, _, hsz57, _⟩ := info_parts info5; obtain ⟨A57, hcut57, hA57, hC57⟩ := print_mid_of (P := Try.prog) (Value.int .u8) 0 22 5 .i64 .i64 Try.underlying22 hi057 hsz57 A0 c0 l0 x8_2 (wrap64 (x8_2 + (wrap64 (1 + t120)))) (of_decide_eq_true (by first | (with_reducible assumption) | assumption)) (by first | omega | exact of_decide_eq_true (by first | (with_reducible assumption) | assumption)) (of_decide_eq_true (by first | (with_reducible assumption) | assumption)) HC0.out; have HR135 := Aside0.mk (Kd.C_of_reads (h1 := fun _ => rfl) (hA57 _ (Kd.reads_of_C HR0.out))); have HC135 := Aside0.mk hC57; clear hA57 hC57 hi057 hsz57; have hcv58 := Kd.C_string (P := Try.prog) (A := A57) (c := (c0 - x8_2.toNat)) Try.underlying22 Try.underlying5 Try.underlying9 (Kd.C_below HR135.out HB.out); have hcv58d := fun m_ : Nat => Kd.C_string (P := Try.prog) (A := A57) (c := (c0 - x8_2.toNat)) Try.underlying22 Try.underlying5 Try.underlying9 (Kd.C_drewN (Kd.C_below HR135.out HB.out) m_); have hcv58e := Kd.C_string (P := Try.prog) (A := A61) (c := (c0 - x8_2.toNat)) Try.underlying22 Try.underlying5 Try.underlying9 (Kd.C_below HR139.out HB.out); rw [cut_len_ l0 x8_2 (wrap64 (x8_2 + (wrap64 (1 + t120)))) (of_decide_eq_true (by first | (with_reducible assumption) | assumption))] at hcv58e; have hcl_ := cut_len_ l0 x8_2 (wrap64 (x8_2 + (wrap64 (1 + t120)))) (of_decide_eq_true (by first | (with_reducible assumption) | assumption)); rw [hcl_] at hcv58; simp only [hcl_] at hcv58d; clear hcl_) | (go_at_call 24; (with_reducible refine (frame_conv_calls _ _ ?hw_ ((l0.take ((wrap64 (x8_2 + (wrap64 (1 + t120)))) : Int).toNat).drop (x8_2 : Int).toNat) t136 ?hm_ A48.out).mono ?_); (case hw_ => rfl); (case hm_ => rw [strOfNums_size]; exact Kd.C_max HR135.out); rintro e w59 ⟨v137, rfl, zq, hb⟩; have n0_ := Aside0.mk (Kd.R_below (by (with_reducible repeat (first | apply Kd.R_alloc | apply Kd.R_drewN | apply Kd.R_drew)); exact zk.out) hb); have n1_ := Aside0.mk (Kd.R_elder' (by (with_reducible repeat (first | apply Kd.R_alloc | apply Kd.R_drewN | apply Kd.R_drew)); exact zi.out) (Kd.R_base zq) hb); have n2_ := Aside0.mk (Kd.R_below (by (with_reducible repeat (first | apply Kd.R_alloc | apply Kd.R_drewN | apply Kd.R_drew)); exact zj.out) hb); have n3_ := Aside0.mk (Kd.R_lower (Kd.R_new' zq (Kd.R_lt (by (with_reducible repeat (first | apply Kd.R_alloc | apply Kd.R_drewN | apply Kd.R_drew)); exact zi.out))) (ze (by repeat (first | (with_reducible first | exact HB.out | apply zc | apply zb | apply zd) | exact HB.out)))); have n4_ := Aside0.mk (zh (by repeat (first | (with_reducible first | exact HB.out | apply zc | apply zb | apply zd) | exact HB.out)) hb); clear zk; clear zi; clear zj; clear HB; have zk := n0_; have zi := n1_; have zj := n2_; have zo := n3_; have HB := n4_; clear n0_ n1_ n2_ n3_ n4_; (try clear hb); (try clear hb2); (try clear hk); (try clear hi); (try clear zq); obtain ⟨Ao60, co60, eo60⟩ := Kd.R_slice zo.out; subst eo60; obtain ⟨i061, hi061, _, hsz61, _⟩ := info_parts info5; obtain ⟨A61, hcut61, hA61, hC61⟩ := print_mid_of (P := Try.prog) (Value.int .u8) 0 22 5 .i64 .i64 Try.underlying22 hi061 hsz61 A0 c0 l0 x8_2 (wrap64 (x8_2 + (wrap64 (1 + t120)))) (of_decide_eq_true (by first | (with_reducible assumption) | assumption)) (by first | omega | exact of_decide_eq_true (by first | (with_reducible assumption) | assumption)) (of_decide_eq_true (by first | (with_reducible assumption) | assumption)) HC0.out; have HR139 := Aside0.mk (Kd.C_of_reads (h1 := fun _ => rfl) (hA61 _ (Kd.reads_of_C HR0.out))); have HC139 := Aside0.mk hC61; clear hA61 hC61 hi061 hsz61; have hcv62 := Kd.C_string (P := Try.prog) (A := A61) (c := (c0 - x8_2.toNat)) Try.underlying22 Try.underlying5 Try.underlying9 (Kd.C_below HR139.out HB.out); have hcv62d := fun m_ : Nat => Kd.C_string (P := Try.prog) (A := A61) (c := (c0 - x8_2.toNat)) Try.underlying22 Try.underlying5 Try.underlying9 (Kd.C_drewN (Kd.C_below HR139.out HB.out) m_); have hcv62e := Kd.C_string (P := Try.prog) (A := A57) (c := (c0 - x8_2.toNat)) Try.underlying22 Try.underlying5 Try.underlying9 (Kd.C_below HR135.out HB.out); rw [cut_len_ l0 x8_2 (wrap64 (x8_2 + (wrap64 (1 + t120)))) (of_decide_eq_true (by first | (with_reducible assumption) | assumption))] at hcv62e; have hcl_ := cut_len_ l0 x8_2 (wrap64 (x8_2 + (wrap64 (1 + t120)))) (of_decide_eq_true (by first | (with_reducible assumption) | assumption)); rw [hcl_] at hcv62; simp only [hcl_] at hcv62d; clear hcl_) | ((with_reducible refine zg (b := .append) (xs := #[.tmp 73, .tmp 81]) rfl ?_); (try (refine zf (by rfl) ?_; dsimp only)); at_builtin; refine Kd.R_append Kd.string (w0 := w) w.heap.size rfl (.tmp 73) (.tmp 81) 46 9 (.string ⟨#[]⟩) 16 rfl Try.underlying46 info9 rfl (by decide) (by omega) (.slice Ao56 x5_2.length co56) x5_2 (strOfNums ((l0.take ((wrap64 (x8_2 + (wrap64 (1 + t120)))) : Int).toNat).drop (x8_2 : Int).toNat)) [.string (strOfNums ((l0.take ((wrap64 (x8_2 + (wrap64 (1 + t120)))) : Int).toNat).drop (x8_2 : Int).toNat))] (fun _ => True) (fun _ => False) rfl rfl ?aP (fun _ hk => hk.elim) ?aF ?aO ?aB ?aS ?aL ?_; (case aP => exact rfl); (case aB => exact (by repeat (first | (with_reducible first | exact HB.out | apply zc | apply zb | apply zd) | exact HB.out))); (case aF => exact (fun _ _ => trivial)); (case aO => exact (by (with_reducible repeat (first | apply Kd.R_alloc | apply Kd.R_drewN | apply Kd.R_drew)); exact zk.out)); (case aS => exact (ze (by repeat (first | (with_reducible first | exact HB.out | apply zc | apply zb | apply zd) | exact HB.out)))); (case aL => have := LMc53.out; omega); intro v141 w63 ho hb hg hat; rw [← Ny140.out] at ho; have n0_ := Aside0.mk (Kd.R_over' (by (with_reducible repeat (first | apply Kd.R_alloc | apply Kd.R_drewN | apply Kd.R_drew)); exact zi.out) (Kd.R_typed (by (with_reducible repeat (first | apply Kd.R_alloc | apply Kd.R_drewN | apply Kd.R_drew)); exact zk.out)) (by decide) hg); have n1_ := Aside0.mk (Kd.R_over' (by (with_reducible repeat (first | apply Kd.R_alloc | apply Kd.R_drewN | apply Kd.R_drew)); exact zj.out) (Kd.R_typed (by (with_reducible repeat (first | apply Kd.R_alloc | apply Kd.R_drewN | apply Kd.R_drew)); exact zk.out)) (by decide) hg); have n2_ := Aside0.mk (Kd.R_over' (by (with_reducible repeat (first | apply Kd.R_alloc | apply Kd.R_drewN | apply Kd.R_drew)); exact zo.out) (Kd.R_typed (by (with_reducible repeat (first | apply Kd.R_alloc | apply Kd.R_drewN | apply Kd.R_drew)); exact zk.out)) (by decide) hg); have n3_ := Aside0.mk (hb); have n4_ := Aside0.mk (ho); clear zi; clear zj; clear zo; clear HB; clear zk; have zi := n0_; have zj := n1_; have zo := n2_; have HB := n3_; have zv := n4_; clear n0_ n1_ n2_ n3_ n4_; clear ho hb hg hat) | ((with_reducible refine zg (b := .append) (xs := #[.tmp 83, .tmp 84]) rfl ?_); (try (refine zf (by rfl) ?_; dsimp only)); at_builtin; refine Kd.R_append_rows (Kd.int .u8) (w0 := w) w.heap.size rfl (.tmp 83) (.tmp 84) 22 5 (.int .u8 0) 1 rfl Try.underlying22 info5 rfl (by decide) (by omega) u6 x6_2 t136 _ _ _ (fun k_ => some k_ ≠ (.slice Ao60 t136.length co60 : Value).ownBlock) (fun _ => False) rfl rfl ?aO ?aR (fun _ _ h => h) (fun _ h => h.elim) ?aF ?aB ?aS ?aL ?_; (case aR => repeat (first | exact (Kd.R_reads' zo.out).2.2 | (with_reducible refine Kd.C_alloc ?_ _) | (with_reducible refine Kd.C_drewN ?_ _) | (with_reducible refine Kd.C_drew ?_))); (case aB => exact (by repeat (first | (with_reducible first | exact HB.out | apply zc | apply zb | apply zd) | exact HB.out))); (case aF => exact (fun k_ hk => Kd.fresh' (Kd.R_lt (by (with_reducible repeat (first | apply Kd.R_alloc | apply Kd.R_drewN | apply Kd.R_drew)); exact zo.out)) k_ hk)); (case aO => exact (by (with_reducible repeat (first | apply Kd.R_alloc | apply Kd.R_drewN | apply Kd.R_drew)); exact Kd.R_mono zi.out (fun _ hk => hk.2))); (case aS => exact (ze (by repeat (first | (with_reducible first | exact HB.out | apply zc | apply zb | apply zd) | exact HB.out)))); (case aL => have := LMc54.out; omega); intro v144 w64 ho hb hg hat; rw [← Ny143.out] at ho; have n0_ := Aside0.mk (Kd.R_over' (by (with_reducible repeat (first | apply Kd.R_alloc | apply Kd.R_drewN | apply Kd.R_drew)); exact zj.out) (Kd.R_typed (by (with_reducible repeat (first | apply Kd.R_alloc | apply Kd.R_drewN | apply Kd.R_drew)); exact zi.out)) (by decide) hg); have n1_ := Aside0.mk (Kd.R_after (ok := (fun _ => True)) (by (with_reducible repeat (first | apply Kd.R_alloc | apply Kd.R_drewN | apply Kd.R_drew)); exact zo.out) hg hat); have n2_ := Aside0.mk (Kd.R_over' (by (with_reducible repeat (first | apply Kd.R_alloc | apply Kd.R_drewN | apply Kd.R_drew)); exact zv.out) (Kd.R_typed (by (with_reducible repeat (first | apply Kd.R_alloc | apply Kd.R_drewN | apply Kd.R_drew)); exact zi.out)) (by decide) hg); have n3_ := Aside0.mk (hb); have n4_ := Aside0.mk (ho); clear zj; clear zo; clear zv; clear HB; clear zi; have zj := n0_; have zo := n1_; have zv := n2_; have HB := n3_; have zA := n4_; clear n0_ n1_ n2_ n3_ n4_; clear ho hb hg hat; obtain ⟨Ao65, co65, eo65⟩ := Kd.R_slice zA.out; subst eo65) | ((with_reducible refine zg (b := .append) (xs := #[.tmp 86, .tmp 89]) rfl ?_); (try (refine zf (by rfl) ?_; dsimp only)); at_builtin; refine Kd.R_append (Kd.int .i64) (w0 := w) w.heap.size rfl (.tmp 86) (.tmp 89) 47 3 (.int .i64 0) 8 rfl Try.underlying47 info3 rfl (by decide) (by omega) u7 x7_2 (y143.length : Int) [.int .i64 (y143.length : Int)] (fun _ => True) (fun _ => False) rfl rfl ?aP (fun _ hk => hk.elim) ?aF ?aO ?aB ?aS ?aL ?_; (case aP => exact rfl); (case aB => exact (by repeat (first | (with_reducible first | exact HB.out | apply zc | apply zb | apply zd) | exact HB.out))); (case aF => exact (fun _ _ => trivial)); (case aO => exact (by (with_reducible repeat (first | apply Kd.R_alloc | apply Kd.R_drewN | apply Kd.R_drew)); exact zj.out)); (case aS => exact (ze (by repeat (first | (with_reducible first | exact HB.out | apply zc | apply zb | apply zd) | exact HB.out)))); (case aL => have := LMc55.out; omega); intro v147 w66 ho hb hg hat; rw [← Ny146.out] at ho; have n0_ := Aside0.mk (Kd.R_over' (by (with_reducible repeat (first | apply Kd.R_alloc | apply Kd.R_drewN | apply Kd.R_drew)); exact zo.out) (Kd.R_typed (by (with_reducible repeat (first | apply Kd.R_alloc | apply Kd.R_drewN | apply Kd.R_drew)); exact zj.out)) (by decide) hg); have n1_ := Aside0.mk (Kd.R_over' (by (with_reducible repeat (first | apply Kd.R_alloc | apply Kd.R_drewN | apply Kd.R_drew)); exact zv.out) (Kd.R_typed (by (with_reducible repeat (first | apply Kd.R_alloc | apply Kd.R_drewN | apply Kd.R_drew)); exact zj.out)) (by decide) hg); have n2_ := Aside0.mk (Kd.R_over' (by (with_reducible repeat (first | apply Kd.R_alloc | apply Kd.R_drewN | apply Kd.R_drew)); exact zA.out) (Kd.R_typed (by (with_reducible repeat (first | apply Kd.R_alloc | apply Kd.R_drewN | apply Kd.R_drew)); exact zj.out)) (by decide) hg); have n3_ := Aside0.mk (hb); have n4_ := Aside0.mk (ho); clear zo; clear zv; clear zA; clear HB; clear zj; have zo := n0_; have zv := n1_; have zA := n2_; have HB := n3_; have zU := n4_; clear n0_ n1_ n2_ n3_ n4_; clear ho hb hg hat)))
                  go_roundg kj11
                  case measure => have := HJ2.out; have := HK2.out; have := HJ11.out; omega
                  case rel => exact ⟨(y140), (y143), (y146), (wrap64 (x8_2 + (wrap64 (1 + t120)))), (by first | rfl | (simp; done) | (simp [*]; done)), H', ⟨by have := HJ2.out; have := HK2.out; have := HJ11.out; omega⟩, ⟨by (with_reducible repeat (first | apply Kd.R_alloc | apply Kd.R_drewN | apply Kd.R_drew)); exact zv.out⟩, ⟨by (with_reducible repeat (first | apply Kd.R_alloc | apply Kd.R_drewN | apply Kd.R_drew)); exact Kd.R_mono zA.out (fun _ hk => trivial)⟩, ⟨by (with_reducible repeat (first | apply Kd.R_alloc | apply Kd.R_drewN | apply Kd.R_drew)); exact zU.out⟩, ⟨by repeat (first | (with_reducible first | exact HB.out | apply zc | apply zb | apply zd) | exact HB.out)⟩⟩
                ·rw [if_neg c55] at H
                 exact absurd H (by simp)
               ·rw [if_neg c54] at H
                exact absurd H (by simp)
              ·rw [if_neg c53] at H
               exact absurd H (by simp)
             ·rw [if_neg c49] at H
              have c49b0 : ((t136.length : Int) == (wrap64 (2 + (wrap64 (Int.tdiv (wrap64 ((wrap64 (8 * (wrap64 (1 + t120)))) + 6)) 7))))) = false := beq_eq_false_iff_ne.mpr c49
              have c49b1 : ((t136.length : Int) != (wrap64 (2 + (wrap64 (Int.tdiv (wrap64 ((wrap64 (8 * (wrap64 (1 + t120)))) + 6)) 7))))) = true := bne_iff_ne.mpr c49
              exact absurd H (by simp)
            ·rw [if_neg c47] at H
             exact absurd H (by simp)
           ·rw [if_neg c46] at H
            exact absurd H (by simp)
          ·rw [if_neg c45] at H
           exact absurd H (by simp)
        ·replace c15 := Bool.eq_false_iff.mpr c15
         subst c15
         have H1 : (laws_FnTornLog.l1 kj11 l1 x5_2 x6_2 x7_2 0) = some r := by rw [if_neg (show ¬ (false = true) by decide)] at H; exact H
         clear H
         have H := H1
         clear H1
         have H' := Aside0.mk H
         clear H
         go_wp2
         repeat (go_quiet (fail); try go_wp2)
         go_loopg [6, 11] kj11 (fun kq v6 v11 w' => ∃ (x6_4 : List Int) (x11_4 : Int), v11 = .int .i64 x11_4 ∧ Aside0 (laws_FnTornLog.l1 kq l1 x5_2 x6_4 x7_2 x11_4 = some r) ∧ Aside0 (kq ≤ kj11) ∧ Aside0 (Kd.R Kd.string 9 w' w.heap.size (fun _ => True) u5 x5_2) ∧ Aside0 (Kd.R (Kd.int .u8) 5 w' w.heap.size (fun _ => True) v6 x6_4) ∧ Aside0 (Kd.R (Kd.int .i64) 3 w' w.heap.size (fun _ => True) u7 x7_2) ∧ Aside0 (Below w.heap.size w w'))
         case atStart => exact ⟨(x6_2), (0), (by first | rfl | (simp; done) | (simp [*]; done)), H', ⟨Nat.le_refl _⟩, ⟨by (with_reducible repeat (first | apply Kd.R_alloc | apply Kd.R_drewN | apply Kd.R_drew)); exact zk.out⟩, ⟨by (with_reducible repeat (first | apply Kd.R_alloc | apply Kd.R_drewN | apply Kd.R_drew)); exact zi.out⟩, ⟨by (with_reducible repeat (first | apply Kd.R_alloc | apply Kd.R_drewN | apply Kd.R_drew)); exact zj.out⟩, ⟨by repeat (first | (with_reducible first | exact HB.out | apply zc | apply zb | apply zd) | exact HB.out)⟩⟩
         case round =>
          clear H'
          try clear c1
          try clear c2
          try clear p2
          try clear hcv3
          try clear c4
          try clear c4b0
          try clear c4b1
          try clear hcv4
          try clear c5
          try clear hcv5
          try clear p6
          try clear hcv6
          try clear c13
          try clear c13b0
          try clear c15
          try clear c17
          try clear c17b0
          try clear c18
          try clear c18b0
          try clear c18b1
          try clear c19
          try clear c19b0
          try clear c19b1
          try clear c20
          try clear c20b0
          try clear c20b1
          try clear c22
          try clear c22b0
          try clear c22b1
          try clear c23
          try clear c23b0
          try clear c24
          try clear c24b0
          try clear c25
          try clear c25b0
          try clear c26
          try clear c27
          try clear c28
          try clear hcv31
          try clear hcv35
          try clear hcv42
          try clear c45
          try clear c45b0
          try clear c45b1
          try clear c46
          try clear c46b0
          try clear c46b1
          try clear c47
          try clear c47b0
          try clear c47b1
          try clear c49
          try clear c49b0
          try clear c49b1
          try clear c50
          try clear c50b0
          try clear c51
          try clear c51b0
          try clear c52
          try clear c52b0
          try clear c53
          try clear c54
          try clear c55
          try clear hcv58
          try clear hcv62
          try clear p64
          try clear hcv69
          try clear p2
          obtain ⟨x6_4, x11_4, rfl, HA, HK4, zk, zi, zj, HB⟩ := hrel
          cases gk with
          | zero => exact absurd HA.out (by simp [laws_FnTornLog.l1])
          | succ k4 =>
           have H := HA.out
           clear HA
           simp only [laws_FnTornLog.l1] at H
           by_cases c72 : x11_4 < 40
           ·rw [if_pos c72] at H
            have c72b0 : decide (x11_4 < 40) = true := decide_eq_true c72
            clear c72
            by_cases c73 : x6_4.length < 140737488355328
            ·as_aux_lemma =>
              rw [if_pos c73] at H
              have LMc73 := Aside0.mk c73
              clear c73
              obtain ⟨y149, hy149⟩ : ∃ y_ : List Int, y_ = (x6_4 ++ [0]) := ⟨_, rfl⟩
              replace H : (laws_FnTornLog.l1 k4 l1 x5_2 y149 x7_2 (wrap64 (x11_4 + 1))) = some r := by first | (rw [hy149]; with_reducible exact H) | (have H2_ := (Option.bind_some _ _).symm.trans H; rw [hy149]; with_reducible exact H2_) | (have H2_ := (Option.bind_some _ _).symm.trans H; with_reducible exact H2_) | with_reducible exact H | (rw [hy149]; exact H) | exact H
              have Ny149 := Aside0.mk hy149
              clear hy149
              have H' := Aside0.mk H
              clear H
              go_wp2_with (first | ((with_reducible refine zg (b := .append) (xs := #[.tmp 98, .tmp 99]) rfl ?_); (try (refine zf (by rfl) ?_; dsimp only)); at_builtin; refine Kd.R_append (Kd.int .u8) (w0 := w) w.heap.size rfl (.tmp 98) (.tmp 99) 22 5 (.int .u8 0) 1 rfl Try.underlying22 info5 rfl (by decide) (by omega) u6 x6_4 0 [.int .u8 0] (fun _ => True) (fun _ => False) rfl rfl ?aP (fun _ hk => hk.elim) ?aF ?aO ?aB ?aS ?aL ?_; (case aP => exact rfl); (case aB => exact (by repeat (first | (with_reducible first | exact HB.out | apply zc | apply zb | apply zd) | exact HB.out))); (case aF => exact (fun _ _ => trivial)); (case aO => exact (by (with_reducible repeat (first | apply Kd.R_alloc | apply Kd.R_drewN | apply Kd.R_drew)); exact zi.out)); (case aS => exact (ze (by repeat (first | (with_reducible first | exact HB.out | apply zc | apply zb | apply zd) | exact HB.out)))); (case aL => have := LMc73.out; omega); intro v150 w74 ho hb hg hat; rw [← Ny149.out] at ho; have n0_ := Aside0.mk (Kd.R_over' (by (with_reducible repeat (first | apply Kd.R_alloc | apply Kd.R_drewN | apply Kd.R_drew)); exact zk.out) (Kd.R_typed (by (with_reducible repeat (first | apply Kd.R_alloc | apply Kd.R_drewN | apply Kd.R_drew)); exact zi.out)) (by decide) hg); have n1_ := Aside0.mk (Kd.R_over' (by (with_reducible repeat (first | apply Kd.R_alloc | apply Kd.R_drewN | apply Kd.R_drew)); exact zj.out) (Kd.R_typed (by (with_reducible repeat (first | apply Kd.R_alloc | apply Kd.R_drewN | apply Kd.R_drew)); exact zi.out)) (by decide) hg); have n2_ := Aside0.mk (hb); have n3_ := Aside0.mk (ho); clear zk; clear zj; clear HB; clear zi; have zk := n0_; have zj := n1_; have HB := n2_; have zV := n3_; clear n0_ n1_ n2_ n3_; clear ho hb hg hat))
              repeat (go_quiet (first | ((with_reducible refine zg (b := .append) (xs := #[.tmp 98, .tmp 99]) rfl ?_); (try (refine zf (by rfl) ?_; dsimp only)); at_builtin; refine Kd.R_append (Kd.int .u8) (w0 := w) w.heap.size rfl (.tmp 98) (.tmp 99) 22 5 (.int .u8 0) 1 rfl Try.underlying22 info5 rfl (by decide) (by omega) u6 x6_4 0 [.int .u8 0] (fun _ => True) (fun _ => False) rfl rfl ?aP (fun _ hk => hk.elim) ?aF ?aO ?aB ?aS ?aL ?_; (case aP => exact rfl); (case aB => exact (by repeat (first | (with_reducible first | exact HB.out | apply zc | apply zb | apply zd) | exact HB.out))); (case aF => exact (fun _ _ => trivial)); (case aO => exact (by (with_reducible repeat (first | apply Kd.R_alloc | apply Kd.R_drewN | apply Kd.R_drew)); exact zi.out)); (case aS => exact (ze (by repeat (first | (with_reducible first | exact HB.out | apply zc | apply zb | apply zd) | exact HB.out)))); (case aL => have := LMc73.out; omega); intro v150 w74 ho hb hg hat; rw [← Ny149.out] at ho; have n0_ := Aside0.mk (Kd.R_over' (by (with_reducible repeat (first | apply Kd.R_alloc | apply Kd.R_drewN | apply Kd.R_drew)); exact zk.out) (Kd.R_typed (by (with_reducible repeat (first | apply Kd.R_alloc | apply Kd.R_drewN | apply Kd.R_drew)); exact zi.out)) (by decide) hg); have n1_ := Aside0.mk (Kd.R_over' (by (with_reducible repeat (first | apply Kd.R_alloc | apply Kd.R_drewN | apply Kd.R_drew)); exact zj.out) (Kd.R_typed (by (with_reducible repeat (first | apply Kd.R_alloc | apply Kd.R_drewN | apply Kd.R_drew)); exact zi.out)) (by decide) hg); have n2_ := Aside0.mk (hb); have n3_ := Aside0.mk (ho); clear zk; clear zj; clear HB; clear zi; have zk := n0_; have zj := n1_; have HB := n2_; have zV := n3_; clear n0_ n1_ n2_ n3_; clear ho hb hg hat)); try go_wp2_with (first | ((with_reducible refine zg (b := .append) (xs := #[.tmp 98, .tmp 99]) rfl ?_); (try (refine zf (by rfl) ?_; dsimp only)); at_builtin; refine Kd.R_append (Kd.int .u8) (w0 := w) w.heap.size rfl (.tmp 98) (.tmp 99) 22 5 (.int .u8 0) 1 rfl Try.underlying22 info5 rfl (by decide) (by omega) u6 x6_4 0 [.int .u8 0] (fun _ => True) (fun _ => False) rfl rfl ?aP (fun _ hk => hk.elim) ?aF ?aO ?aB ?aS ?aL ?_; (case aP => exact rfl); (case aB => exact (by repeat (first | (with_reducible first | exact HB.out | apply zc | apply zb | apply zd) | exact HB.out))); (case aF => exact (fun _ _ => trivial)); (case aO => exact (by (with_reducible repeat (first | apply Kd.R_alloc | apply Kd.R_drewN | apply Kd.R_drew)); exact zi.out)); (case aS => exact (ze (by repeat (first | (with_reducible first | exact HB.out | apply zc | apply zb | apply zd) | exact HB.out)))); (case aL => have := LMc73.out; omega); intro v150 w74 ho hb hg hat; rw [← Ny149.out] at ho; have n0_ := Aside0.mk (Kd.R_over' (by (with_reducible repeat (first | apply Kd.R_alloc | apply Kd.R_drewN | apply Kd.R_drew)); exact zk.out) (Kd.R_typed (by (with_reducible repeat (first | apply Kd.R_alloc | apply Kd.R_drewN | apply Kd.R_drew)); exact zi.out)) (by decide) hg); have n1_ := Aside0.mk (Kd.R_over' (by (with_reducible repeat (first | apply Kd.R_alloc | apply Kd.R_drewN | apply Kd.R_drew)); exact zj.out) (Kd.R_typed (by (with_reducible repeat (first | apply Kd.R_alloc | apply Kd.R_drewN | apply Kd.R_drew)); exact zi.out)) (by decide) hg); have n2_ := Aside0.mk (hb); have n3_ := Aside0.mk (ho); clear zk; clear zj; clear HB; clear zi; have zk := n0_; have zj := n1_; have HB := n2_; have zV := n3_; clear n0_ n1_ n2_ n3_; clear ho hb hg hat)))
              go_roundg k4
              case measure => have := HJ2.out; have := HK2.out; have := HJ11.out; have := HK4.out; omega
              case rel => exact ⟨(y149), (wrap64 (x11_4 + 1)), (by first | rfl | (simp; done) | (simp [*]; done)), H', ⟨by have := HJ2.out; have := HK2.out; have := HJ11.out; have := HK4.out; omega⟩, ⟨by (with_reducible repeat (first | apply Kd.R_alloc | apply Kd.R_drewN | apply Kd.R_drew)); exact zk.out⟩, ⟨by (with_reducible repeat (first | apply Kd.R_alloc | apply Kd.R_drewN | apply Kd.R_drew)); exact zV.out⟩, ⟨by (with_reducible repeat (first | apply Kd.R_alloc | apply Kd.R_drewN | apply Kd.R_drew)); exact zj.out⟩, ⟨by repeat (first | (with_reducible first | exact HB.out | apply zc | apply zb | apply zd) | exact HB.out)⟩⟩
            ·rw [if_neg c73] at H
             exact absurd H (by simp)
           ·rw [if_neg c72] at H
            have c72b0 : decide (x11_4 < 40) = false := decide_eq_false c72
            clear c72
            have H' := Aside0.mk H
            clear H
            obtain ⟨Ao75, co75, eo75⟩ := Kd.R_slice zk.out
            subst eo75
            go_wp2
            repeat (go_quiet (fail); try go_wp2)
            go_loopg [12, 13] k4 (fun kq v12 v13 w' => ∃ (x6_5 : List Int) (x12_5 : Int) (x13_5 : Int), v12 = .int .i64 x12_5 ∧ v13 = .int .i64 x13_5 ∧ Aside0 (laws_FnTornLog.l2 kq l1 x5_2 x6_5 x7_2 x12_5 x13_5 = some r) ∧ Aside0 (kq ≤ k4) ∧ Aside0 (Kd.R Kd.string 9 w' w.heap.size (fun _ => True) (.slice Ao75 x5_2.length co75) x5_2) ∧ Aside0 (Kd.R (Kd.int .u8) 5 w' w.heap.size (fun _ => True) u6 x6_5) ∧ Aside0 (Kd.R (Kd.int .i64) 3 w' w.heap.size (fun _ => True) u7 x7_2) ∧ Aside0 (Below w.heap.size w w'))
            case atStart => exact ⟨(x6_4), ((x5_2.length : Int)), (0), (by first | rfl | (simp; done) | (simp [*]; done)), (by first | rfl | (simp; done) | (simp [*]; done)), H', ⟨Nat.le_refl _⟩, ⟨by (with_reducible repeat (first | apply Kd.R_alloc | apply Kd.R_drewN | apply Kd.R_drew)); exact zk.out⟩, ⟨by (with_reducible repeat (first | apply Kd.R_alloc | apply Kd.R_drewN | apply Kd.R_drew)); exact zi.out⟩, ⟨by (with_reducible repeat (first | apply Kd.R_alloc | apply Kd.R_drewN | apply Kd.R_drew)); exact zj.out⟩, ⟨by repeat (first | (with_reducible first | exact HB.out | apply zc | apply zb | apply zd) | exact HB.out)⟩⟩
            case round =>
             clear H'
             try clear c1
             try clear c2
             try clear p2
             try clear hcv3
             try clear c4
             try clear c4b0
             try clear c4b1
             try clear hcv4
             try clear c5
             try clear hcv5
             try clear p6
             try clear hcv6
             try clear c7
             try clear c13
             try clear c13b0
             try clear c15
             try clear c17
             try clear c17b0
             try clear c18
             try clear c18b0
             try clear c18b1
             try clear c19
             try clear c19b0
             try clear c19b1
             try clear c20
             try clear c20b0
             try clear c20b1
             try clear c22
             try clear c22b0
             try clear c22b1
             try clear c23
             try clear c23b0
             try clear c24
             try clear c24b0
             try clear c25
             try clear c25b0
             try clear c26
             try clear c27
             try clear c28
             try clear hcv31
             try clear hcv35
             try clear hcv42
             try clear c45
             try clear c45b0
             try clear c45b1
             try clear c46
             try clear c46b0
             try clear c46b1
             try clear c47
             try clear c47b0
             try clear c47b1
             try clear c49
             try clear c49b0
             try clear c49b1
             try clear c50
             try clear c50b0
             try clear c51
             try clear c51b0
             try clear c52
             try clear c52b0
             try clear c53
             try clear c54
             try clear c55
             try clear hcv58
             try clear hcv62
             try clear p64
             try clear hcv69
             try clear c72
             try clear c72b0
             try clear c73
             try clear p2
             try clear p6
             try clear p64
             obtain ⟨x6_5, x12_5, x13_5, rfl, rfl, HA, HK5, zk, zi, zj, HB⟩ := hrel
             cases gk with
             | zero => exact absurd HA.out (by simp [laws_FnTornLog.l2])
             | succ k5 =>
              have H := HA.out
              clear HA
              simp only [laws_FnTornLog.l2] at H
              by_cases c76 : x13_5 < 3
              ·rw [if_pos c76] at H
               have c76b0 : decide (x13_5 < 3) = true := decide_eq_true c76
               clear c76
               replace H := Option.bind_eq_some_iff.mp H
               obtain ⟨t152, A770, H⟩ := H
               replace H : ((laws_lwAt.f l1 (wrap64 (32 + (wrap64 (2 * x13_5)))) 30).bind fun t153 => (laws_FnTornLog.l3 k5 l1 x5_2 x6_5 x7_2 x12_5 x13_5 (wrap64 (Int.tdiv (wrap64 (t152 * (x6_5.length : Int))) 200)) t153 (wrap64 (Int.tdiv (wrap64 (t152 * (x6_5.length : Int))) 200)))) = some r := H
               have A77 := Aside0.mk A770
               clear A770
               replace H := Option.bind_eq_some_iff.mp H
               obtain ⟨t153, A780, H⟩ := H
               replace H : (laws_FnTornLog.l3 k5 l1 x5_2 x6_5 x7_2 x12_5 x13_5 (wrap64 (Int.tdiv (wrap64 (t152 * (x6_5.length : Int))) 200)) t153 (wrap64 (Int.tdiv (wrap64 (t152 * (x6_5.length : Int))) 200))) = some r := H
               have A78 := Aside0.mk A780
               clear A780
               have H' := Aside0.mk H
               clear H
               go_wp2_with (first | (go_at_call 23; (with_reducible refine (laws_lwAt.calls _ _ l1 (wrap64 (31 + (wrap64 (2 * x13_5)))) 256 t152 _ ?side1 ?side2 A77.out).mono ?_); (case side1 => repeat (first | exact (Kd.C_below HR1.out HB.out) | (with_reducible refine Kd.C_alloc ?_ _) | (with_reducible refine Kd.C_drewN ?_ _) | (with_reducible refine Kd.C_drew ?_))); (case side2 => exact HC1.out); rintro e w' ⟨rfl, ⟨nd, rfl⟩⟩; (try first | exact ⟨rfl, _, World.drewN_drewN _ _ _⟩ | exact ⟨rfl, _, Eq.trans (World.drewN_drewN _ _ _) (congrArg (World.drewN _) (Nat.add_assoc _ _ _))⟩); obtain ⟨Ao79, co79, eo79⟩ := Kd.R_slice zi.out; subst eo79) | (go_at_call 23; (with_reducible refine (laws_lwAt.calls _ _ l1 (wrap64 (32 + (wrap64 (2 * x13_5)))) 30 t153 _ ?side1 ?side2 A78.out).mono ?_); (case side1 => repeat (first | exact (Kd.C_below HR1.out (by repeat (first | (with_reducible first | exact HB.out | apply zc | apply zb | apply zd) | exact HB.out))) | (with_reducible refine Kd.C_alloc ?_ _) | (with_reducible refine Kd.C_drewN ?_ _) | (with_reducible refine Kd.C_drew ?_))); (case side2 => exact HC1.out); rintro e w' ⟨rfl, ⟨nd, rfl⟩⟩; (try first | exact ⟨rfl, _, World.drewN_drewN _ _ _⟩ | exact ⟨rfl, _, Eq.trans (World.drewN_drewN _ _ _) (congrArg (World.drewN _) (Nat.add_assoc _ _ _))⟩)))
               repeat (go_quiet (first | (go_at_call 23; (with_reducible refine (laws_lwAt.calls _ _ l1 (wrap64 (31 + (wrap64 (2 * x13_5)))) 256 t152 _ ?side1 ?side2 A77.out).mono ?_); (case side1 => repeat (first | exact (Kd.C_below HR1.out HB.out) | (with_reducible refine Kd.C_alloc ?_ _) | (with_reducible refine Kd.C_drewN ?_ _) | (with_reducible refine Kd.C_drew ?_))); (case side2 => exact HC1.out); rintro e w' ⟨rfl, ⟨nd, rfl⟩⟩; (try first | exact ⟨rfl, _, World.drewN_drewN _ _ _⟩ | exact ⟨rfl, _, Eq.trans (World.drewN_drewN _ _ _) (congrArg (World.drewN _) (Nat.add_assoc _ _ _))⟩); obtain ⟨Ao79, co79, eo79⟩ := Kd.R_slice zi.out; subst eo79) | (go_at_call 23; (with_reducible refine (laws_lwAt.calls _ _ l1 (wrap64 (32 + (wrap64 (2 * x13_5)))) 30 t153 _ ?side1 ?side2 A78.out).mono ?_); (case side1 => repeat (first | exact (Kd.C_below HR1.out (by repeat (first | (with_reducible first | exact HB.out | apply zc | apply zb | apply zd) | exact HB.out))) | (with_reducible refine Kd.C_alloc ?_ _) | (with_reducible refine Kd.C_drewN ?_ _) | (with_reducible refine Kd.C_drew ?_))); (case side2 => exact HC1.out); rintro e w' ⟨rfl, ⟨nd, rfl⟩⟩; (try first | exact ⟨rfl, _, World.drewN_drewN _ _ _⟩ | exact ⟨rfl, _, Eq.trans (World.drewN_drewN _ _ _) (congrArg (World.drewN _) (Nat.add_assoc _ _ _))⟩))); try go_wp2_with (first | (go_at_call 23; (with_reducible refine (laws_lwAt.calls _ _ l1 (wrap64 (31 + (wrap64 (2 * x13_5)))) 256 t152 _ ?side1 ?side2 A77.out).mono ?_); (case side1 => repeat (first | exact (Kd.C_below HR1.out HB.out) | (with_reducible refine Kd.C_alloc ?_ _) | (with_reducible refine Kd.C_drewN ?_ _) | (with_reducible refine Kd.C_drew ?_))); (case side2 => exact HC1.out); rintro e w' ⟨rfl, ⟨nd, rfl⟩⟩; (try first | exact ⟨rfl, _, World.drewN_drewN _ _ _⟩ | exact ⟨rfl, _, Eq.trans (World.drewN_drewN _ _ _) (congrArg (World.drewN _) (Nat.add_assoc _ _ _))⟩); obtain ⟨Ao79, co79, eo79⟩ := Kd.R_slice zi.out; subst eo79) | (go_at_call 23; (with_reducible refine (laws_lwAt.calls _ _ l1 (wrap64 (32 + (wrap64 (2 * x13_5)))) 30 t153 _ ?side1 ?side2 A78.out).mono ?_); (case side1 => repeat (first | exact (Kd.C_below HR1.out (by repeat (first | (with_reducible first | exact HB.out | apply zc | apply zb | apply zd) | exact HB.out))) | (with_reducible refine Kd.C_alloc ?_ _) | (with_reducible refine Kd.C_drewN ?_ _) | (with_reducible refine Kd.C_drew ?_))); (case side2 => exact HC1.out); rintro e w' ⟨rfl, ⟨nd, rfl⟩⟩; (try first | exact ⟨rfl, _, World.drewN_drewN _ _ _⟩ | exact ⟨rfl, _, Eq.trans (World.drewN_drewN _ _ _) (congrArg (World.drewN _) (Nat.add_assoc _ _ _))⟩))))
               go_loopg [12, 16] k5 (fun kq v12 v16 w' => ∃ (x6_6 : List Int) (x12_6 : Int) (x16_6 : Int), v12 = .int .i64 x12_6 ∧ v16 = .int .i64 x16_6 ∧ Aside0 (laws_FnTornLog.l3 kq l1 x5_2 x6_6 x7_2 x12_6 x13_5 (wrap64 (Int.tdiv (wrap64 (t152 * (x6_5.length : Int))) 200)) t153 x16_6 = some r) ∧ Aside0 (kq ≤ k5) ∧ Aside0 (Kd.R Kd.string 9 w' w.heap.size (fun _ => True) (.slice Ao75 x5_2.length co75) x5_2) ∧ Aside0 (Kd.R (Kd.int .u8) 5 w' w.heap.size (fun _ => True) (.slice Ao79 x6_5.length co79) x6_6) ∧ Aside0 (Kd.R (Kd.int .i64) 3 w' w.heap.size (fun _ => True) u7 x7_2) ∧ Aside0 (Below w.heap.size w w'))
               case atStart => exact ⟨(x6_5), (x12_5), (wrap64 (Int.tdiv (wrap64 (t152 * (x6_5.length : Int))) 200)), (by first | rfl | (simp; done) | (simp [*]; done)), (by first | rfl | (simp; done) | (simp [*]; done)), H', ⟨Nat.le_refl _⟩, ⟨by (with_reducible repeat (first | apply Kd.R_alloc | apply Kd.R_drewN | apply Kd.R_drew)); exact zk.out⟩, ⟨by (with_reducible repeat (first | apply Kd.R_alloc | apply Kd.R_drewN | apply Kd.R_drew)); exact zi.out⟩, ⟨by (with_reducible repeat (first | apply Kd.R_alloc | apply Kd.R_drewN | apply Kd.R_drew)); exact zj.out⟩, ⟨by repeat (first | (with_reducible first | exact HB.out | apply zc | apply zb | apply zd) | exact HB.out)⟩⟩
               case round =>
                clear H'
                try clear c1
                try clear c2
                try clear p2
                try clear hcv3
                try clear c4
                try clear c4b0
                try clear c4b1
                try clear hcv4
                try clear c5
                try clear hcv5
                try clear p6
                try clear hcv6
                try clear c7
                try clear c13
                try clear c13b0
                try clear c15
                try clear c17
                try clear c17b0
                try clear c18
                try clear c18b0
                try clear c18b1
                try clear c19
                try clear c19b0
                try clear c19b1
                try clear c20
                try clear c20b0
                try clear c20b1
                try clear c22
                try clear c22b0
                try clear c22b1
                try clear c23
                try clear c23b0
                try clear c24
                try clear c24b0
                try clear c25
                try clear c25b0
                try clear c26
                try clear c27
                try clear c28
                try clear hcv31
                try clear hcv35
                try clear hcv42
                try clear c45
                try clear c45b0
                try clear c45b1
                try clear c46
                try clear c46b0
                try clear c46b1
                try clear c47
                try clear c47b0
                try clear c47b1
                try clear c49
                try clear c49b0
                try clear c49b1
                try clear c50
                try clear c50b0
                try clear c51
                try clear c51b0
                try clear c52
                try clear c52b0
                try clear c53
                try clear c54
                try clear c55
                try clear hcv58
                try clear hcv62
                try clear p64
                try clear hcv69
                try clear c72
                try clear c72b0
                try clear c73
                try clear c76
                try clear c76b0
                try clear p2
                try clear p6
                try clear p64
                obtain ⟨x6_6, x12_6, x16_6, rfl, rfl, HA, HK6, zk, zi, zj, HB⟩ := hrel
                have hl6_6 := (Kd.R_reads' zi.out).1
                rw [hl6_6] at zi
                (try simp only [hl6_6])
                (try simp only [hl6_6] at zk)
                (try simp only [hl6_6] at zj)
                cases gk with
                | zero => exact absurd HA.out (by simp [laws_FnTornLog.l3])
                | succ k6 =>
                 have H := HA.out
                 clear HA
                 simp only [laws_FnTornLog.l3] at H
                 have HC80 := Aside0.mk H
                 clear H
                 go_upto_region 29 with (fail)
                 repeat (go_quiet (fail); go_upto_region 29 with (fail))
                 go_cut [132] (fun v132 wc => ∃ (kq : Nat) (x132_79 : Bool), v132 = .bool x132_79 ∧ Aside0 (laws_FnTornLog.j6 kq l1 x5_2 x6_6 x7_2 x12_6 x13_5 (wrap64 (Int.tdiv (wrap64 (t152 * (x6_5.length : Int))) 200)) t153 x16_6 x132_79 = some r) ∧ Aside0 (kq ≤ k6) ∧ Aside0 (Kd.R Kd.string 9 wc w.heap.size (fun _ => True) (.slice Ao75 x5_2.length co75) x5_2) ∧ Aside0 (Kd.R (Kd.int .u8) 5 wc w.heap.size (fun _ => True) (.slice Ao79 x6_6.length co79) x6_6) ∧ Aside0 (Kd.R (Kd.int .i64) 3 wc w.heap.size (fun _ => True) u7 x7_2) ∧ Aside0 (Below w.heap.size w wc))
                 case first =>
                  have H := HC80.out
                  clear HC80
                  by_cases c81 : x16_6 < (wrap64 ((wrap64 (Int.tdiv (wrap64 (t152 * (x6_5.length : Int))) 200)) + t153))
                  ·as_aux_lemma =>
                    rw [if_pos c81] at H
                    have c81b0 : decide (x16_6 < (wrap64 ((wrap64 (Int.tdiv (wrap64 (t152 * (x6_5.length : Int))) 200)) + t153))) = true := decide_eq_true c81
                    have c81b9 := c81b0
                    simp only [hl6_6] at c81b9
                    clear c81
                    (first | rw [c81b0] | (simp only [i64_w, i32_w]; rw [c81b0]) | skip)
                    have H' := Aside0.mk H
                    clear H
                    go_wp2
                    repeat (go_quiet (fail); try go_wp2)
                    go_meet
                    case rel => exact ⟨_, (decide (x16_6 < (x6_6.length : Int))), (by first | rfl | (simp; done) | (simp [*]; done)), H', ⟨by have := HJ2.out; have := HK2.out; have := HJ11.out; have := HK4.out; have := HK5.out; have := HK6.out; first | omega | exact Nat.le_refl _⟩, ⟨by (try simp only [hl6_6]); (with_reducible repeat (first | apply Kd.R_alloc | apply Kd.R_drewN | apply Kd.R_drew)); exact zk.out⟩, ⟨by (try simp only [hl6_6]); (with_reducible repeat (first | apply Kd.R_alloc | apply Kd.R_drewN | apply Kd.R_drew)); exact zi.out⟩, ⟨by (try simp only [hl6_6]); (with_reducible repeat (first | apply Kd.R_alloc | apply Kd.R_drewN | apply Kd.R_drew)); exact zj.out⟩, ⟨by repeat (first | (with_reducible first | exact HB.out | apply zc | apply zb | apply zd) | exact HB.out)⟩⟩
                  ·as_aux_lemma =>
                    rw [if_neg c81] at H
                    have c81b0 : decide (x16_6 < (wrap64 ((wrap64 (Int.tdiv (wrap64 (t152 * (x6_5.length : Int))) 200)) + t153))) = false := decide_eq_false c81
                    have c81b9 := c81b0
                    simp only [hl6_6] at c81b9
                    clear c81
                    (first | rw [c81b0] | (simp only [i64_w, i32_w]; rw [c81b0]) | skip)
                    have H' := Aside0.mk H
                    clear H
                    go_wp2
                    repeat (go_quiet (fail); try go_wp2)
                    go_meet
                    case rel => exact ⟨_, (false), (by first | rfl | (simp; done) | (simp [*]; done)), H', ⟨by have := HJ2.out; have := HK2.out; have := HJ11.out; have := HK4.out; have := HK5.out; have := HK6.out; first | omega | exact Nat.le_refl _⟩, ⟨by (try simp only [hl6_6]); (with_reducible repeat (first | apply Kd.R_alloc | apply Kd.R_drewN | apply Kd.R_drew)); exact zk.out⟩, ⟨by (try simp only [hl6_6]); (with_reducible repeat (first | apply Kd.R_alloc | apply Kd.R_drewN | apply Kd.R_drew)); exact zi.out⟩, ⟨by (try simp only [hl6_6]); (with_reducible repeat (first | apply Kd.R_alloc | apply Kd.R_drewN | apply Kd.R_drew)); exact zj.out⟩, ⟨by repeat (first | (with_reducible first | exact HB.out | apply zc | apply zb | apply zd) | exact HB.out)⟩⟩
                 case rest =>
                  clear HC80
                  try clear c1
                  try clear c2
                  try clear p2
                  try clear hcv3
                  try clear c4
                  try clear c4b0
                  try clear c4b1
                  try clear hcv4
                  try clear c5
                  try clear hcv5
                  try clear p6
                  try clear hcv6
                  try clear c7
                  try clear c8
                  try clear c13
                  try clear c13b0
                  try clear c15
                  try clear c17
                  try clear c17b0
                  try clear c18
                  try clear c18b0
                  try clear c18b1
                  try clear c19
                  try clear c19b0
                  try clear c19b1
                  try clear c20
                  try clear c20b0
                  try clear c20b1
                  try clear c22
                  try clear c22b0
                  try clear c22b1
                  try clear c23
                  try clear c23b0
                  try clear c24
                  try clear c24b0
                  try clear c25
                  try clear c25b0
                  try clear c26
                  try clear c27
                  try clear c28
                  try clear hcv31
                  try clear hcv35
                  try clear hcv42
                  try clear c45
                  try clear c45b0
                  try clear c45b1
                  try clear c46
                  try clear c46b0
                  try clear c46b1
                  try clear c47
                  try clear c47b0
                  try clear c47b1
                  try clear c49
                  try clear c49b0
                  try clear c49b1
                  try clear c50
                  try clear c50b0
                  try clear c51
                  try clear c51b0
                  try clear c52
                  try clear c52b0
                  try clear c53
                  try clear c54
                  try clear c55
                  try clear hcv58
                  try clear hcv62
                  try clear p64
                  try clear hcv69
                  try clear c72
                  try clear c72b0
                  try clear c73
                  try clear c76
                  try clear c76b0
                  try clear c81
                  try clear c81b0
                  try clear p2
                  try clear p6
                  try clear p64
                  obtain ⟨kq, x132_79, rfl, HA, HJ79, zk, zi, zj, HB⟩ := hcut
                  cases kq with
                  | zero => exact absurd HA.out (by simp [laws_FnTornLog.j6])
                  | succ kj79 =>
                   have H := HA.out
                   clear HA
                   simp only [laws_FnTornLog.j6] at H
                   by_cases c82 : x132_79 = true
                   ·subst c82
                    have H1 : (if 0 ≤ x16_6 then (if x16_6 < (x6_6.length : Int) then (laws_FnTornLog.l4 kj79 l1 x5_2 (x6_6.set (x16_6 : Int).toNat 0) x7_2 x12_6 x13_5 (wrap64 (Int.tdiv (wrap64 (t152 * (x6_5.length : Int))) 200)) t153 x16_6 (wrap64 ((x5_2.length : Int) - 1))) else (none)) else (none)) = some r := by rw [if_pos rfl] at H; exact H
                    clear H
                    have H := H1
                    clear H1
                    by_cases c83 : 0 ≤ x16_6
                    ·rw [if_pos c83] at H
                     have c83b0 : decide (0 ≤ x16_6) = true := decide_eq_true c83
                     clear c83
                     by_cases c84 : x16_6 < (x6_6.length : Int)
                     ·rw [if_pos c84] at H
                      have c84b0 : decide (x16_6 < (x6_6.length : Int)) = true := decide_eq_true c84
                      clear c84
                      obtain ⟨y154, hy154⟩ : ∃ y_ : List Int, y_ = (x6_6.set (x16_6 : Int).toNat 0) := ⟨_, rfl⟩
                      replace H : (laws_FnTornLog.l4 kj79 l1 x5_2 y154 x7_2 x12_6 x13_5 (wrap64 (Int.tdiv (wrap64 (t152 * (x6_5.length : Int))) 200)) t153 x16_6 (wrap64 ((x5_2.length : Int) - 1))) = some r := by first | (rw [hy154]; with_reducible exact H) | (have H2_ := (Option.bind_some _ _).symm.trans H; rw [hy154]; with_reducible exact H2_) | (have H2_ := (Option.bind_some _ _).symm.trans H; with_reducible exact H2_) | with_reducible exact H | (rw [hy154]; exact H) | exact H
                      have Ny154 := Aside0.mk hy154
                      clear hy154
                      have H' := Aside0.mk H
                      clear H
                      have p85 : 0 ≤ (x16_6 : Int) := of_decide_eq_true (by first | (with_reducible assumption) | assumption)
                      have q85 : (x16_6 : Int) < ((x6_6.length : Int) : Int) := of_decide_eq_true (by first | (with_reducible assumption) | assumption)
                      obtain ⟨go85, co85, eo85, zW, gl85, cl85, HG85⟩ := Kd.R_form zi.out (by omega)
                      (first | cases eo85 | (injection eo85 with ea_ en_ ec_; (first | subst ea_ | (injection ea_ with ea_; subst ea_)); subst ec_; clear en_))
                      have GB85 := Aside0.mk zW
                      have GG85 := Aside0.mk HG85
                      clear zW gl85 HG85
                      obtain ⟨hx85_0, hf85_0⟩ := Kd.R_celln 0 zi.out (x16_6 : Int) p85 q85
                      replace p85 := eq_true p85
                      replace q85 := eq_true q85
                      have HP86 := Kd.R_putg zi.out (x16_6 : Int) 0
                      go_wp2_with (first | ((with_reducible refine gate_store (t := 5) (p := 137) rfl ?_); (try (rw [drewN_self wc]; generalize hq_ : World.drewN wc _ = wc; have n0_ := Aside0.mk (Kd.R_at hq_ zk.out); have n1_ := Aside0.mk (Kd.R_at hq_ zi.out); have n2_ := Aside0.mk (Kd.R_at hq_ zj.out); have n3_ := Aside0.mk (below_at hq_ HB.out); clear hq_ zk zi zj HB; have zk := n0_; have zi := n1_; have zj := n2_; have HB := n3_; clear n0_ n1_ n2_ n3_; (try (have HP86 := Kd.R_putg zi.out (x16_6 : Int) 0)))); refine store_event (t := 5) (p := 137) (v := ?vo_w87) (w1 := (wc.setCell ⟨go85, (x16_6 : Int).toNat, none⟩ (.int .u8 0))) ?hg ?ho ?hn ?hr ?_; (case ho => rfl); (case hg => rfl); (case hn => rfl); (case hr => first | (go_simp; done) | (go_simp; rfl)); intro w87 hw; have hg : wc.grownBy w87 (some go85) := (by rw [hw]; exact HP86.2); have hp_ : Kd.R (Kd.int .u8) 5 w87 w.heap.size (fun _ => True) (.slice (some ⟨go85, 0, none⟩) x6_6.length co79) y154 := (by rw [hw, Ny154.out]; exact HP86.1); clear HP86; have n0_ := Aside0.mk (Kd.R_over' (v := (.slice (some ⟨go85, 0, none⟩) x6_6.length co79)) (by (with_reducible repeat (first | apply Kd.R_alloc | apply Kd.R_drewN | apply Kd.R_drew)); exact zk.out) (Kd.R_typed zi.out) (by decide) hg); have n1_ := Aside0.mk (hp_); have n2_ := Aside0.mk (Kd.R_over' (v := (.slice (some ⟨go85, 0, none⟩) x6_6.length co79)) (by (with_reducible repeat (first | apply Kd.R_alloc | apply Kd.R_drewN | apply Kd.R_drew)); exact zj.out) (Kd.R_typed zi.out) (by decide) hg); have n3_ := Aside0.mk ((by rw [hw]; exact below_set (HB.out) GB85.out : Below w.heap.size w w87)); clear zk; clear zi; clear zj; clear HB; have zk := n0_; have zi := n1_; have zj := n2_; have HB := n3_; clear n0_ n1_ n2_ n3_; clear hg hw hp_))
                      repeat (go_quiet (first | ((with_reducible refine gate_store (t := 5) (p := 137) rfl ?_); (try (rw [drewN_self wc]; generalize hq_ : World.drewN wc _ = wc; have n0_ := Aside0.mk (Kd.R_at hq_ zk.out); have n1_ := Aside0.mk (Kd.R_at hq_ zi.out); have n2_ := Aside0.mk (Kd.R_at hq_ zj.out); have n3_ := Aside0.mk (below_at hq_ HB.out); clear hq_ zk zi zj HB; have zk := n0_; have zi := n1_; have zj := n2_; have HB := n3_; clear n0_ n1_ n2_ n3_; (try (have HP86 := Kd.R_putg zi.out (x16_6 : Int) 0)))); refine store_event (t := 5) (p := 137) (v := ?vo_w87) (w1 := (wc.setCell ⟨go85, (x16_6 : Int).toNat, none⟩ (.int .u8 0))) ?hg ?ho ?hn ?hr ?_; (case ho => rfl); (case hg => rfl); (case hn => rfl); (case hr => first | (go_simp; done) | (go_simp; rfl)); intro w87 hw; have hg : wc.grownBy w87 (some go85) := (by rw [hw]; exact HP86.2); have hp_ : Kd.R (Kd.int .u8) 5 w87 w.heap.size (fun _ => True) (.slice (some ⟨go85, 0, none⟩) x6_6.length co79) y154 := (by rw [hw, Ny154.out]; exact HP86.1); clear HP86; have n0_ := Aside0.mk (Kd.R_over' (v := (.slice (some ⟨go85, 0, none⟩) x6_6.length co79)) (by (with_reducible repeat (first | apply Kd.R_alloc | apply Kd.R_drewN | apply Kd.R_drew)); exact zk.out) (Kd.R_typed zi.out) (by decide) hg); have n1_ := Aside0.mk (hp_); have n2_ := Aside0.mk (Kd.R_over' (v := (.slice (some ⟨go85, 0, none⟩) x6_6.length co79)) (by (with_reducible repeat (first | apply Kd.R_alloc | apply Kd.R_drewN | apply Kd.R_drew)); exact zj.out) (Kd.R_typed zi.out) (by decide) hg); have n3_ := Aside0.mk ((by rw [hw]; exact below_set (HB.out) GB85.out : Below w.heap.size w w87)); clear zk; clear zi; clear zj; clear HB; have zk := n0_; have zi := n1_; have zj := n2_; have HB := n3_; clear n0_ n1_ n2_ n3_; clear hg hw hp_)); try go_wp2_with (first | ((with_reducible refine gate_store (t := 5) (p := 137) rfl ?_); (try (rw [drewN_self wc]; generalize hq_ : World.drewN wc _ = wc; have n0_ := Aside0.mk (Kd.R_at hq_ zk.out); have n1_ := Aside0.mk (Kd.R_at hq_ zi.out); have n2_ := Aside0.mk (Kd.R_at hq_ zj.out); have n3_ := Aside0.mk (below_at hq_ HB.out); clear hq_ zk zi zj HB; have zk := n0_; have zi := n1_; have zj := n2_; have HB := n3_; clear n0_ n1_ n2_ n3_; (try (have HP86 := Kd.R_putg zi.out (x16_6 : Int) 0)))); refine store_event (t := 5) (p := 137) (v := ?vo_w87) (w1 := (wc.setCell ⟨go85, (x16_6 : Int).toNat, none⟩ (.int .u8 0))) ?hg ?ho ?hn ?hr ?_; (case ho => rfl); (case hg => rfl); (case hn => rfl); (case hr => first | (go_simp; done) | (go_simp; rfl)); intro w87 hw; have hg : wc.grownBy w87 (some go85) := (by rw [hw]; exact HP86.2); have hp_ : Kd.R (Kd.int .u8) 5 w87 w.heap.size (fun _ => True) (.slice (some ⟨go85, 0, none⟩) x6_6.length co79) y154 := (by rw [hw, Ny154.out]; exact HP86.1); clear HP86; have n0_ := Aside0.mk (Kd.R_over' (v := (.slice (some ⟨go85, 0, none⟩) x6_6.length co79)) (by (with_reducible repeat (first | apply Kd.R_alloc | apply Kd.R_drewN | apply Kd.R_drew)); exact zk.out) (Kd.R_typed zi.out) (by decide) hg); have n1_ := Aside0.mk (hp_); have n2_ := Aside0.mk (Kd.R_over' (v := (.slice (some ⟨go85, 0, none⟩) x6_6.length co79)) (by (with_reducible repeat (first | apply Kd.R_alloc | apply Kd.R_drewN | apply Kd.R_drew)); exact zj.out) (Kd.R_typed zi.out) (by decide) hg); have n3_ := Aside0.mk ((by rw [hw]; exact below_set (HB.out) GB85.out : Below w.heap.size w w87)); clear zk; clear zi; clear zj; clear HB; have zk := n0_; have zi := n1_; have zj := n2_; have HB := n3_; clear n0_ n1_ n2_ n3_; clear hg hw hp_)))
                      go_loopg [12, 17] kj79 (fun kq v12 v17 w' => ∃ (x12_8 : Int) (x17_8 : Int), v12 = .int .i64 x12_8 ∧ v17 = .int .i64 x17_8 ∧ Aside0 (laws_FnTornLog.l4 kq l1 x5_2 y154 x7_2 x12_8 x13_5 (wrap64 (Int.tdiv (wrap64 (t152 * (x6_5.length : Int))) 200)) t153 x16_6 x17_8 = some r) ∧ Aside0 (kq ≤ kj79) ∧ Aside0 (Kd.R Kd.string 9 w' w.heap.size (fun _ => True) (.slice Ao75 x5_2.length co75) x5_2) ∧ Aside0 (Kd.R (Kd.int .u8) 5 w' w.heap.size (fun _ => True) (.slice (some ⟨go85, 0, none⟩) x6_6.length co79) y154) ∧ Aside0 (Kd.R (Kd.int .i64) 3 w' w.heap.size (fun _ => True) u7 x7_2) ∧ Aside0 (Below w.heap.size w w'))
                      case atStart => exact ⟨(x12_6), (wrap64 ((x5_2.length : Int) - 1)), (by first | rfl | (simp; done) | (simp [*]; done)), (by first | rfl | (simp; done) | (simp [*]; done)), H', ⟨Nat.le_refl _⟩, ⟨by (try simp only [hl6_6]); (with_reducible repeat (first | apply Kd.R_alloc | apply Kd.R_drewN | apply Kd.R_drew)); exact zk.out⟩, ⟨by (try simp only [hl6_6]); (with_reducible repeat (first | apply Kd.R_alloc | apply Kd.R_drewN | apply Kd.R_drew)); exact zi.out⟩, ⟨by (try simp only [hl6_6]); (with_reducible repeat (first | apply Kd.R_alloc | apply Kd.R_drewN | apply Kd.R_drew)); exact zj.out⟩, ⟨by repeat (first | (with_reducible first | exact HB.out | apply zc | apply zb | apply zd) | exact HB.out)⟩⟩
                      case round =>
                       clear H'
                       try clear c1
                       try clear c2
                       try clear p2
                       try clear hcv3
                       try clear c4
                       try clear c4b0
                       try clear c4b1
                       try clear hcv4
                       try clear c5
                       try clear hcv5
                       try clear p6
                       try clear hcv6
                       try clear c7
                       try clear c8
                       try clear p8
                       try clear q8
                       try clear hx8
                       try clear hf8
                       try clear c13
                       try clear c13b0
                       try clear c15
                       try clear c17
                       try clear c17b0
                       try clear c18
                       try clear c18b0
                       try clear c18b1
                       try clear c19
                       try clear c19b0
                       try clear c19b1
                       try clear c20
                       try clear c20b0
                       try clear c20b1
                       try clear c22
                       try clear c22b0
                       try clear c22b1
                       try clear c23
                       try clear c23b0
                       try clear c24
                       try clear c24b0
                       try clear c25
                       try clear c25b0
                       try clear c26
                       try clear c27
                       try clear c28
                       try clear hcv31
                       try clear hcv35
                       try clear hcv42
                       try clear c45
                       try clear c45b0
                       try clear c45b1
                       try clear c46
                       try clear c46b0
                       try clear c46b1
                       try clear c47
                       try clear c47b0
                       try clear c47b1
                       try clear c49
                       try clear c49b0
                       try clear c49b1
                       try clear c50
                       try clear c50b0
                       try clear c51
                       try clear c51b0
                       try clear c52
                       try clear c52b0
                       try clear c53
                       try clear c54
                       try clear c55
                       try clear hcv58
                       try clear hcv62
                       try clear p64
                       try clear hcv69
                       try clear c72
                       try clear c72b0
                       try clear c73
                       try clear c76
                       try clear c76b0
                       try clear c81
                       try clear c81b0
                       try clear c82
                       try clear c83
                       try clear c83b0
                       try clear c84
                       try clear c84b0
                       try clear p85
                       try clear q85
                       try clear hx85
                       try clear hf85
                       try clear hx85_0
                       try clear p2
                       try clear p6
                       try clear p64
                       try clear p85
                       try clear q85
                       obtain ⟨x12_8, x17_8, rfl, rfl, HA, HK8, zk, zi, zj, HB⟩ := hrel
                       have hl6_8 := (Kd.R_reads' zi.out).1
                       rw [hl6_8] at zi
                       (try simp only [hl6_8])
                       (try simp only [hl6_8] at zk)
                       (try simp only [hl6_8] at zj)
                       cases gk with
                       | zero => exact absurd HA.out (by simp [laws_FnTornLog.l4])
                       | succ k8 =>
                        have H := HA.out
                        clear HA
                        simp only [laws_FnTornLog.l4] at H
                        by_cases c88 : x17_8 ≥ 0
                        ·rw [if_pos c88] at H
                         have c88b0 : decide (0 ≤ x17_8) = true := decide_eq_true c88
                         clear c88
                         by_cases c89 : 0 ≤ x17_8
                         ·rw [if_pos c89] at H
                          have c89b0 : decide (0 ≤ x17_8) = true := decide_eq_true c89
                          clear c89
                          by_cases c90 : x17_8 < (x7_2.length : Int)
                          ·rw [if_pos c90] at H
                           have c90b0 : decide (x17_8 < (x7_2.length : Int)) = true := decide_eq_true c90
                           clear c90
                           by_cases c91 : x16_6 < (rd x7_2 x17_8)
                           ·rw [if_pos c91] at H
                            have c91b0 : decide (x16_6 < (rd x7_2 x17_8)) = true := decide_eq_true c91
                            clear c91
                            by_cases c92 : x17_8 = 0
                            ·rw [if_pos c92] at H
                             have c92b0 : (x17_8 == 0) = true := beq_iff_eq.mpr c92
                             have c92b1 : (x17_8 != 0) = false := bne_eq_false_iff_eq.mpr c92
                             clear c92
                             by_cases c93 : x17_8 < x12_8
                             ·as_aux_lemma =>
                               rw [if_pos c93] at H
                               have c93b0 : decide (x17_8 < x12_8) = true := decide_eq_true c93
                               clear c93
                               have H' := Aside0.mk H
                               clear H
                               obtain ⟨Ao94, co94, eo94⟩ := Kd.R_slice zj.out
                               subst eo94
                               have p155 : 0 ≤ (x17_8 : Int) := of_decide_eq_true (by first | (with_reducible assumption) | assumption)
                               have q155 : x17_8 < (x7_2.length : Int) := of_decide_eq_true (by first | (with_reducible assumption) | assumption)
                               obtain ⟨ad155, e155, hx155_0⟩ := Kd.at_int (Kd.R_reads' zj.out).2.2 x17_8 p155 q155
                               cases e155
                               replace p155 := eq_true p155
                               replace q155 := eq_true q155
                               go_wp2
                               repeat (go_quiet (fail); try go_wp2)
                               (try simp only [← hl6_8])
                               go_roundg k8
                               case measure => have := HJ2.out; have := HK2.out; have := HJ11.out; have := HK4.out; have := HK5.out; have := HK6.out; have := HJ79.out; have := HK8.out; omega
                               case rel => exact ⟨(x17_8), (wrap64 (x17_8 - 1)), (by first | rfl | (simp; done) | (simp [*]; done)), (by first | rfl | (simp; done) | (simp [*]; done)), H', ⟨by have := HJ2.out; have := HK2.out; have := HJ11.out; have := HK4.out; have := HK5.out; have := HK6.out; have := HJ79.out; have := HK8.out; omega⟩, ⟨by (try simp only [hl6_6]); (try simp only [hl6_8]); (with_reducible repeat (first | apply Kd.R_alloc | apply Kd.R_drewN | apply Kd.R_drew)); exact zk.out⟩, ⟨by (try simp only [hl6_6]); (try simp only [hl6_8]); (with_reducible repeat (first | apply Kd.R_alloc | apply Kd.R_drewN | apply Kd.R_drew)); exact zi.out⟩, ⟨by (try simp only [hl6_6]); (try simp only [hl6_8]); (with_reducible repeat (first | apply Kd.R_alloc | apply Kd.R_drewN | apply Kd.R_drew)); exact zj.out⟩, ⟨by repeat (first | (with_reducible first | exact HB.out | apply zc | apply zb | apply zd) | exact HB.out)⟩⟩
                             ·as_aux_lemma =>
                               rw [if_neg c93] at H
                               have c93b0 : decide (x17_8 < x12_8) = false := decide_eq_false c93
                               clear c93
                               have H' := Aside0.mk H
                               clear H
                               obtain ⟨Ao95, co95, eo95⟩ := Kd.R_slice zj.out
                               subst eo95
                               have p155 : 0 ≤ (x17_8 : Int) := of_decide_eq_true (by first | (with_reducible assumption) | assumption)
                               have q155 : x17_8 < (x7_2.length : Int) := of_decide_eq_true (by first | (with_reducible assumption) | assumption)
                               obtain ⟨ad155, e155, hx155_0⟩ := Kd.at_int (Kd.R_reads' zj.out).2.2 x17_8 p155 q155
                               cases e155
                               replace p155 := eq_true p155
                               replace q155 := eq_true q155
                               go_wp2
                               repeat (go_quiet (fail); try go_wp2)
                               (try simp only [← hl6_8])
                               go_roundg k8
                               case measure => have := HJ2.out; have := HK2.out; have := HJ11.out; have := HK4.out; have := HK5.out; have := HK6.out; have := HJ79.out; have := HK8.out; omega
                               case rel => exact ⟨(x12_8), (wrap64 (x17_8 - 1)), (by first | rfl | (simp; done) | (simp [*]; done)), (by first | rfl | (simp; done) | (simp [*]; done)), H', ⟨by have := HJ2.out; have := HK2.out; have := HJ11.out; have := HK4.out; have := HK5.out; have := HK6.out; have := HJ79.out; have := HK8.out; omega⟩, ⟨by (try simp only [hl6_6]); (try simp only [hl6_8]); (with_reducible repeat (first | apply Kd.R_alloc | apply Kd.R_drewN | apply Kd.R_drew)); exact zk.out⟩, ⟨by (try simp only [hl6_6]); (try simp only [hl6_8]); (with_reducible repeat (first | apply Kd.R_alloc | apply Kd.R_drewN | apply Kd.R_drew)); exact zi.out⟩, ⟨by (try simp only [hl6_6]); (try simp only [hl6_8]); (with_reducible repeat (first | apply Kd.R_alloc | apply Kd.R_drewN | apply Kd.R_drew)); exact zj.out⟩, ⟨by repeat (first | (with_reducible first | exact HB.out | apply zc | apply zb | apply zd) | exact HB.out)⟩⟩
                            ·rw [if_neg c92] at H
                             have c92b0 : (x17_8 == 0) = false := beq_eq_false_iff_ne.mpr c92
                             have c92b1 : (x17_8 != 0) = true := bne_iff_ne.mpr c92
                             obtain ⟨ji96, hji96⟩ : ∃ j_ : Int, (wrap64 (x17_8 - 1)) = j_ := ⟨_, rfl⟩
                             replace H : (if 0 ≤ (ji96) then (if (ji96) < (x7_2.length : Int) then (if x16_6 ≥ (rd x7_2 (ji96)) then (if x17_8 < x12_8 then (laws_FnTornLog.l4 k8 l1 x5_2 y154 x7_2 x17_8 x13_5 (wrap64 (Int.tdiv (wrap64 (t152 * (x6_5.length : Int))) 200)) t153 x16_6 ji96) else (laws_FnTornLog.l4 k8 l1 x5_2 y154 x7_2 x12_8 x13_5 (wrap64 (Int.tdiv (wrap64 (t152 * (x6_5.length : Int))) 200)) t153 x16_6 ji96)) else (laws_FnTornLog.l4 k8 l1 x5_2 y154 x7_2 x12_8 x13_5 (wrap64 (Int.tdiv (wrap64 (t152 * (x6_5.length : Int))) 200)) t153 x16_6 ji96)) else (none)) else (none)) = some r := by first | (rw [hji96] at H; exact H) | (simp only [hji96] at H ⊢; exact H)
                             have hji96w : (IntKind.i64.wrap (x17_8 - 1)) = ji96 := (i64_w _).trans hji96
                             by_cases c97 : 0 ≤ (ji96)
                             ·rw [if_pos c97] at H
                              have c97b0 : decide (0 ≤ (ji96)) = true := decide_eq_true c97
                              clear c97
                              by_cases c98 : (ji96) < (x7_2.length : Int)
                              ·rw [if_pos c98] at H
                               have c98b0 : decide ((ji96) < (x7_2.length : Int)) = true := decide_eq_true c98
                               clear c98
                               by_cases c99 : x16_6 ≥ (rd x7_2 (ji96))
                               ·rw [if_pos c99] at H
                                have c99b0 : decide ((rd x7_2 (ji96)) ≤ x16_6) = true := decide_eq_true c99
                                clear c99
                                by_cases c100 : x17_8 < x12_8
                                ·as_aux_lemma =>
                                  rw [if_pos c100] at H
                                  have c100b0 : decide (x17_8 < x12_8) = true := decide_eq_true c100
                                  clear c100
                                  have H' := Aside0.mk H
                                  clear H
                                  obtain ⟨Ao101, co101, eo101⟩ := Kd.R_slice zj.out
                                  subst eo101
                                  have p155 : 0 ≤ (x17_8 : Int) := of_decide_eq_true (by first | (with_reducible assumption) | assumption)
                                  have q155 : x17_8 < (x7_2.length : Int) := of_decide_eq_true (by first | (with_reducible assumption) | assumption)
                                  obtain ⟨ad155, e155, hx155_0⟩ := Kd.at_int (Kd.R_reads' zj.out).2.2 x17_8 p155 q155
                                  cases e155
                                  replace p155 := eq_true p155
                                  replace q155 := eq_true q155
                                  have p156 : 0 ≤ ((ji96) : Int) := of_decide_eq_true (by first | (with_reducible assumption) | assumption)
                                  have q156 : (ji96) < (x7_2.length : Int) := of_decide_eq_true (by first | (with_reducible assumption) | assumption)
                                  obtain ⟨ad156, e156, hx156_0⟩ := Kd.at_int (Kd.R_reads' zj.out).2.2 (ji96) p156 q156
                                  obtain rfl : ad155 = ad156 := (by injection e156)
                                  replace p156 := eq_true p156
                                  replace q156 := eq_true q156
                                  go_wp2
                                  repeat (go_quiet (fail); try go_wp2)
                                  (try simp only [← hl6_8])
                                  go_roundg k8
                                  case measure => have := HJ2.out; have := HK2.out; have := HJ11.out; have := HK4.out; have := HK5.out; have := HK6.out; have := HJ79.out; have := HK8.out; omega
                                  case rel => exact ⟨(x17_8), (ji96), (by first | rfl | (simp; done) | (simp [*]; done)), (by first | rfl | (simp; done) | (simp only [← hji96] <;> (first | rfl | simp)) | (simp [*]; done)), H', ⟨by have := HJ2.out; have := HK2.out; have := HJ11.out; have := HK4.out; have := HK5.out; have := HK6.out; have := HJ79.out; have := HK8.out; omega⟩, ⟨by (try simp only [hl6_6]); (try simp only [hl6_8]); (with_reducible repeat (first | apply Kd.R_alloc | apply Kd.R_drewN | apply Kd.R_drew)); exact zk.out⟩, ⟨by (try simp only [hl6_6]); (try simp only [hl6_8]); (with_reducible repeat (first | apply Kd.R_alloc | apply Kd.R_drewN | apply Kd.R_drew)); exact zi.out⟩, ⟨by (try simp only [hl6_6]); (try simp only [hl6_8]); (with_reducible repeat (first | apply Kd.R_alloc | apply Kd.R_drewN | apply Kd.R_drew)); exact zj.out⟩, ⟨by repeat (first | (with_reducible first | exact HB.out | apply zc | apply zb | apply zd) | exact HB.out)⟩⟩
                                ·as_aux_lemma =>
                                  rw [if_neg c100] at H
                                  have c100b0 : decide (x17_8 < x12_8) = false := decide_eq_false c100
                                  clear c100
                                  have H' := Aside0.mk H
                                  clear H
                                  obtain ⟨Ao102, co102, eo102⟩ := Kd.R_slice zj.out
                                  subst eo102
                                  have p155 : 0 ≤ (x17_8 : Int) := of_decide_eq_true (by first | (with_reducible assumption) | assumption)
                                  have q155 : x17_8 < (x7_2.length : Int) := of_decide_eq_true (by first | (with_reducible assumption) | assumption)
                                  obtain ⟨ad155, e155, hx155_0⟩ := Kd.at_int (Kd.R_reads' zj.out).2.2 x17_8 p155 q155
                                  cases e155
                                  replace p155 := eq_true p155
                                  replace q155 := eq_true q155
                                  have p156 : 0 ≤ ((ji96) : Int) := of_decide_eq_true (by first | (with_reducible assumption) | assumption)
                                  have q156 : (ji96) < (x7_2.length : Int) := of_decide_eq_true (by first | (with_reducible assumption) | assumption)
                                  obtain ⟨ad156, e156, hx156_0⟩ := Kd.at_int (Kd.R_reads' zj.out).2.2 (ji96) p156 q156
                                  obtain rfl : ad155 = ad156 := (by injection e156)
                                  replace p156 := eq_true p156
                                  replace q156 := eq_true q156
                                  go_wp2
                                  repeat (go_quiet (fail); try go_wp2)
                                  (try simp only [← hl6_8])
                                  go_roundg k8
                                  case measure => have := HJ2.out; have := HK2.out; have := HJ11.out; have := HK4.out; have := HK5.out; have := HK6.out; have := HJ79.out; have := HK8.out; omega
                                  case rel => exact ⟨(x12_8), (ji96), (by first | rfl | (simp; done) | (simp [*]; done)), (by first | rfl | (simp; done) | (simp only [← hji96] <;> (first | rfl | simp)) | (simp [*]; done)), H', ⟨by have := HJ2.out; have := HK2.out; have := HJ11.out; have := HK4.out; have := HK5.out; have := HK6.out; have := HJ79.out; have := HK8.out; omega⟩, ⟨by (try simp only [hl6_6]); (try simp only [hl6_8]); (with_reducible repeat (first | apply Kd.R_alloc | apply Kd.R_drewN | apply Kd.R_drew)); exact zk.out⟩, ⟨by (try simp only [hl6_6]); (try simp only [hl6_8]); (with_reducible repeat (first | apply Kd.R_alloc | apply Kd.R_drewN | apply Kd.R_drew)); exact zi.out⟩, ⟨by (try simp only [hl6_6]); (try simp only [hl6_8]); (with_reducible repeat (first | apply Kd.R_alloc | apply Kd.R_drewN | apply Kd.R_drew)); exact zj.out⟩, ⟨by repeat (first | (with_reducible first | exact HB.out | apply zc | apply zb | apply zd) | exact HB.out)⟩⟩
                               ·as_aux_lemma =>
                                 rw [if_neg c99] at H
                                 have c99b0 : decide ((rd x7_2 (ji96)) ≤ x16_6) = false := decide_eq_false c99
                                 clear c99
                                 have H' := Aside0.mk H
                                 clear H
                                 obtain ⟨Ao103, co103, eo103⟩ := Kd.R_slice zj.out
                                 subst eo103
                                 have p155 : 0 ≤ (x17_8 : Int) := of_decide_eq_true (by first | (with_reducible assumption) | assumption)
                                 have q155 : x17_8 < (x7_2.length : Int) := of_decide_eq_true (by first | (with_reducible assumption) | assumption)
                                 obtain ⟨ad155, e155, hx155_0⟩ := Kd.at_int (Kd.R_reads' zj.out).2.2 x17_8 p155 q155
                                 cases e155
                                 replace p155 := eq_true p155
                                 replace q155 := eq_true q155
                                 have p156 : 0 ≤ ((ji96) : Int) := of_decide_eq_true (by first | (with_reducible assumption) | assumption)
                                 have q156 : (ji96) < (x7_2.length : Int) := of_decide_eq_true (by first | (with_reducible assumption) | assumption)
                                 obtain ⟨ad156, e156, hx156_0⟩ := Kd.at_int (Kd.R_reads' zj.out).2.2 (ji96) p156 q156
                                 obtain rfl : ad155 = ad156 := (by injection e156)
                                 replace p156 := eq_true p156
                                 replace q156 := eq_true q156
                                 go_wp2
                                 repeat (go_quiet (fail); try go_wp2)
                                 (try simp only [← hl6_8])
                                 go_roundg k8
                                 case measure => have := HJ2.out; have := HK2.out; have := HJ11.out; have := HK4.out; have := HK5.out; have := HK6.out; have := HJ79.out; have := HK8.out; omega
                                 case rel => exact ⟨(x12_8), (ji96), (by first | rfl | (simp; done) | (simp [*]; done)), (by first | rfl | (simp; done) | (simp only [← hji96] <;> (first | rfl | simp)) | (simp [*]; done)), H', ⟨by have := HJ2.out; have := HK2.out; have := HJ11.out; have := HK4.out; have := HK5.out; have := HK6.out; have := HJ79.out; have := HK8.out; omega⟩, ⟨by (try simp only [hl6_6]); (try simp only [hl6_8]); (with_reducible repeat (first | apply Kd.R_alloc | apply Kd.R_drewN | apply Kd.R_drew)); exact zk.out⟩, ⟨by (try simp only [hl6_6]); (try simp only [hl6_8]); (with_reducible repeat (first | apply Kd.R_alloc | apply Kd.R_drewN | apply Kd.R_drew)); exact zi.out⟩, ⟨by (try simp only [hl6_6]); (try simp only [hl6_8]); (with_reducible repeat (first | apply Kd.R_alloc | apply Kd.R_drewN | apply Kd.R_drew)); exact zj.out⟩, ⟨by repeat (first | (with_reducible first | exact HB.out | apply zc | apply zb | apply zd) | exact HB.out)⟩⟩
                              ·rw [if_neg c98] at H
                               exact absurd H (by simp)
                             ·rw [if_neg c97] at H
                              exact absurd H (by simp)
                           ·as_aux_lemma =>
                             rw [if_neg c91] at H
                             have c91b0 : decide (x16_6 < (rd x7_2 x17_8)) = false := decide_eq_false c91
                             clear c91
                             have H' := Aside0.mk H
                             clear H
                             obtain ⟨Ao104, co104, eo104⟩ := Kd.R_slice zj.out
                             subst eo104
                             have p155 : 0 ≤ (x17_8 : Int) := of_decide_eq_true (by first | (with_reducible assumption) | assumption)
                             have q155 : x17_8 < (x7_2.length : Int) := of_decide_eq_true (by first | (with_reducible assumption) | assumption)
                             obtain ⟨ad155, e155, hx155_0⟩ := Kd.at_int (Kd.R_reads' zj.out).2.2 x17_8 p155 q155
                             cases e155
                             replace p155 := eq_true p155
                             replace q155 := eq_true q155
                             go_wp2
                             repeat (go_quiet (fail); try go_wp2)
                             (try simp only [← hl6_8])
                             go_roundg k8
                             case measure => have := HJ2.out; have := HK2.out; have := HJ11.out; have := HK4.out; have := HK5.out; have := HK6.out; have := HJ79.out; have := HK8.out; omega
                             case rel => exact ⟨(x12_8), (wrap64 (x17_8 - 1)), (by first | rfl | (simp; done) | (simp [*]; done)), (by first | rfl | (simp; done) | (simp [*]; done)), H', ⟨by have := HJ2.out; have := HK2.out; have := HJ11.out; have := HK4.out; have := HK5.out; have := HK6.out; have := HJ79.out; have := HK8.out; omega⟩, ⟨by (try simp only [hl6_6]); (try simp only [hl6_8]); (with_reducible repeat (first | apply Kd.R_alloc | apply Kd.R_drewN | apply Kd.R_drew)); exact zk.out⟩, ⟨by (try simp only [hl6_6]); (try simp only [hl6_8]); (with_reducible repeat (first | apply Kd.R_alloc | apply Kd.R_drewN | apply Kd.R_drew)); exact zi.out⟩, ⟨by (try simp only [hl6_6]); (try simp only [hl6_8]); (with_reducible repeat (first | apply Kd.R_alloc | apply Kd.R_drewN | apply Kd.R_drew)); exact zj.out⟩, ⟨by repeat (first | (with_reducible first | exact HB.out | apply zc | apply zb | apply zd) | exact HB.out)⟩⟩
                          ·rw [if_neg c90] at H
                           exact absurd H (by simp)
                         ·rw [if_neg c89] at H
                          exact absurd H (by simp)
                        ·as_aux_lemma =>
                          rw [if_neg c88] at H
                          have c88b0 : decide (0 ≤ x17_8) = false := decide_eq_false c88
                          clear c88
                          have H' := Aside0.mk H
                          clear H
                          go_wp2
                          repeat (go_quiet (fail); try go_wp2)
                          (try simp only [← hl6_6, ← hl6_8])
                          go_roundg k8
                          case measure => have := HJ2.out; have := HK2.out; have := HJ11.out; have := HK4.out; have := HK5.out; have := HK6.out; have := HJ79.out; have := HK8.out; omega
                          case rel => exact ⟨(y154), (x12_8), (wrap64 (x16_6 + 1)), (by first | rfl | (simp; done) | (simp [*]; done)), (by first | rfl | (simp; done) | (simp [*]; done)), H', ⟨by have := HJ2.out; have := HK2.out; have := HJ11.out; have := HK4.out; have := HK5.out; have := HK6.out; have := HJ79.out; have := HK8.out; omega⟩, ⟨by (try simp only [hl6_6]); (try simp only [hl6_8]); (with_reducible repeat (first | apply Kd.R_alloc | apply Kd.R_drewN | apply Kd.R_drew)); exact zk.out⟩, ⟨by (try simp only [hl6_6]); (try simp only [hl6_8]); (with_reducible repeat (first | apply Kd.R_alloc | apply Kd.R_drewN | apply Kd.R_drew)); exact zi.out⟩, ⟨by (try simp only [hl6_6]); (try simp only [hl6_8]); (with_reducible repeat (first | apply Kd.R_alloc | apply Kd.R_drewN | apply Kd.R_drew)); exact zj.out⟩, ⟨by repeat (first | (with_reducible first | exact HB.out | apply zc | apply zb | apply zd) | exact HB.out)⟩⟩
                     ·rw [if_neg c84] at H
                      exact absurd H (by simp)
                    ·rw [if_neg c83] at H
                     exact absurd H (by simp)
                   ·as_aux_lemma =>
                     replace c82 := Bool.eq_false_iff.mpr c82
                     subst c82
                     have H1 : (laws_FnTornLog.l2 kj79 l1 x5_2 x6_6 x7_2 x12_6 (wrap64 (x13_5 + 1))) = some r := by rw [if_neg (show ¬ (false = true) by decide)] at H; exact H
                     clear H
                     have H := H1
                     clear H1
                     have H' := Aside0.mk H
                     clear H
                     go_wp2
                     repeat (go_quiet (fail); try go_wp2)
                     (try simp only [← hl6_6])
                     go_roundg kj79
                     case measure => have := HJ2.out; have := HK2.out; have := HJ11.out; have := HK4.out; have := HK5.out; have := HK6.out; have := HJ79.out; omega
                     case rel => exact ⟨(x6_6), (x12_6), (wrap64 (x13_5 + 1)), (by first | rfl | (simp; done) | (simp [*]; done)), (by first | rfl | (simp; done) | (simp [*]; done)), H', ⟨by have := HJ2.out; have := HK2.out; have := HJ11.out; have := HK4.out; have := HK5.out; have := HK6.out; have := HJ79.out; omega⟩, ⟨by (try simp only [hl6_6]); (with_reducible repeat (first | apply Kd.R_alloc | apply Kd.R_drewN | apply Kd.R_drew)); exact zk.out⟩, ⟨by (try simp only [hl6_6]); (with_reducible repeat (first | apply Kd.R_alloc | apply Kd.R_drewN | apply Kd.R_drew)); exact zi.out⟩, ⟨by (try simp only [hl6_6]); (with_reducible repeat (first | apply Kd.R_alloc | apply Kd.R_drewN | apply Kd.R_drew)); exact zj.out⟩, ⟨by repeat (first | (with_reducible first | exact HB.out | apply zc | apply zb | apply zd) | exact HB.out)⟩⟩
              ·rw [if_neg c76] at H
               have c76b0 : decide (x13_5 < 3) = false := decide_eq_false c76
               clear c76
               have HC105 := Aside0.mk H
               clear H
               go_upto_if 171 with (fail)
               repeat (go_quiet (fail); go_upto_if 171 with (fail))
               go_cut [18] (fun v18 wc => ∃ (kq : Nat) (x18_104 : Int), v18 = .int .i64 x18_104 ∧ Aside0 (laws_FnTornLog.j8 kq x5_2 x6_5 x12_5 x18_104 = some r) ∧ Aside0 (kq ≤ k5) ∧ Aside0 (Kd.R Kd.string 9 wc w.heap.size (fun _ => True) (.slice Ao75 x5_2.length co75) x5_2) ∧ Aside0 (Kd.R (Kd.int .u8) 5 wc w.heap.size (fun _ => True) u6 x6_5) ∧ Aside0 (Below w.heap.size w wc))
               case first =>
                have H := HC105.out
                clear HC105
                by_cases c106 : x12_5 > 0
                ·rw [if_pos c106] at H
                 have c106b0 : decide (0 < x12_5) = true := decide_eq_true c106
                 clear c106
                 (first | rw [c106b0] | (simp only [i64_w, i32_w]; rw [c106b0]) | skip)
                 obtain ⟨ji107, hji107⟩ : ∃ j_ : Int, (wrap64 (x12_5 - 1)) = j_ := ⟨_, rfl⟩
                 replace H : (if 0 ≤ (ji107) then (if (ji107) < (x7_2.length : Int) then (laws_FnTornLog.j8 k5 x5_2 x6_5 x12_5 (rd x7_2 (ji107))) else (none)) else (none)) = some r := by first | (rw [hji107] at H; exact H) | (simp only [hji107] at H ⊢; exact H)
                 have hji107w : (IntKind.i64.wrap (x12_5 - 1)) = ji107 := (i64_w _).trans hji107
                 by_cases c108 : 0 ≤ (ji107)
                 ·rw [if_pos c108] at H
                  have c108b0 : decide (0 ≤ (ji107)) = true := decide_eq_true c108
                  clear c108
                  by_cases c109 : (ji107) < (x7_2.length : Int)
                  ·as_aux_lemma =>
                    rw [if_pos c109] at H
                    have c109b0 : decide ((ji107) < (x7_2.length : Int)) = true := decide_eq_true c109
                    clear c109
                    have H' := Aside0.mk H
                    clear H
                    obtain ⟨Ao110, co110, eo110⟩ := Kd.R_slice zj.out
                    subst eo110
                    have p157 : 0 ≤ ((ji107) : Int) := of_decide_eq_true (by first | (with_reducible assumption) | assumption)
                    have q157 : (ji107) < (x7_2.length : Int) := of_decide_eq_true (by first | (with_reducible assumption) | assumption)
                    obtain ⟨ad157, e157, hx157_0⟩ := Kd.at_int (Kd.R_reads' zj.out).2.2 (ji107) p157 q157
                    cases e157
                    replace p157 := eq_true p157
                    replace q157 := eq_true q157
                    go_wp2
                    repeat (go_quiet (fail); try go_wp2)
                    go_meet
                    case rel => exact ⟨_, (rd x7_2 (ji107)), (by first | rfl | (simp; done) | (simp only [← hji107] <;> (first | rfl | simp)) | (simp [*]; done)), H', ⟨by have := HJ2.out; have := HK2.out; have := HJ11.out; have := HK4.out; have := HK5.out; first | omega | exact Nat.le_refl _⟩, ⟨by (with_reducible repeat (first | apply Kd.R_alloc | apply Kd.R_drewN | apply Kd.R_drew)); exact zk.out⟩, ⟨by (with_reducible repeat (first | apply Kd.R_alloc | apply Kd.R_drewN | apply Kd.R_drew)); exact zi.out⟩, ⟨by repeat (first | (with_reducible first | exact HB.out | apply zc | apply zb | apply zd) | exact HB.out)⟩⟩
                  ·rw [if_neg c109] at H
                   exact absurd H (by simp)
                 ·rw [if_neg c108] at H
                  exact absurd H (by simp)
                ·as_aux_lemma =>
                  rw [if_neg c106] at H
                  have c106b0 : decide (0 < x12_5) = false := decide_eq_false c106
                  clear c106
                  (first | rw [c106b0] | (simp only [i64_w, i32_w]; rw [c106b0]) | skip)
                  have H' := Aside0.mk H
                  clear H
                  go_wp2
                  repeat (go_quiet (fail); try go_wp2)
                  go_meet
                  case rel => exact ⟨_, (0), (by first | rfl | (simp; done) | (simp [*]; done)), H', ⟨by have := HJ2.out; have := HK2.out; have := HJ11.out; have := HK4.out; have := HK5.out; first | omega | exact Nat.le_refl _⟩, ⟨by (with_reducible repeat (first | apply Kd.R_alloc | apply Kd.R_drewN | apply Kd.R_drew)); exact zk.out⟩, ⟨by (with_reducible repeat (first | apply Kd.R_alloc | apply Kd.R_drewN | apply Kd.R_drew)); exact zi.out⟩, ⟨by repeat (first | (with_reducible first | exact HB.out | apply zc | apply zb | apply zd) | exact HB.out)⟩⟩
               case rest =>
                clear HC105
                try clear c1
                try clear p1
                try clear q1
                try clear hx1
                try clear c2
                try clear p2
                try clear hcv3
                try clear c4
                try clear c4b0
                try clear c4b1
                try clear hcv4
                try clear c5
                try clear hcv5
                try clear p6
                try clear hcv6
                try clear c7
                try clear c8
                try clear p8
                try clear q8
                try clear hx8
                try clear hf8
                try clear c9
                try clear c10
                try clear c13
                try clear c13b0
                try clear c15
                try clear p15
                try clear q15
                try clear hx15
                try clear c17
                try clear c17b0
                try clear c18
                try clear c18b0
                try clear c18b1
                try clear c19
                try clear c19b0
                try clear c19b1
                try clear c20
                try clear c20b0
                try clear c20b1
                try clear c22
                try clear c22b0
                try clear c22b1
                try clear c23
                try clear c23b0
                try clear c24
                try clear c24b0
                try clear c25
                try clear c25b0
                try clear c26
                try clear c27
                try clear c28
                try clear hcv31
                try clear hcv35
                try clear hcv42
                try clear c45
                try clear c45b0
                try clear c45b1
                try clear c46
                try clear c46b0
                try clear c46b1
                try clear c47
                try clear c47b0
                try clear c47b1
                try clear c49
                try clear c49b0
                try clear c49b1
                try clear c50
                try clear c50b0
                try clear c51
                try clear c51b0
                try clear c52
                try clear c52b0
                try clear c53
                try clear c54
                try clear c55
                try clear hcv58
                try clear hcv62
                try clear p64
                try clear hcv69
                try clear c72
                try clear c72b0
                try clear c73
                try clear c76
                try clear c76b0
                try clear c81
                try clear c81b0
                try clear c82
                try clear c83
                try clear c83b0
                try clear c84
                try clear c84b0
                try clear p85
                try clear q85
                try clear hx85
                try clear hf85
                try clear c88
                try clear c88b0
                try clear c89
                try clear c89b0
                try clear c90
                try clear c90b0
                try clear c91
                try clear c91b0
                try clear c92
                try clear c92b0
                try clear c92b1
                try clear c93
                try clear c93b0
                try clear c97
                try clear c97b0
                try clear c98
                try clear c98b0
                try clear c99
                try clear c99b0
                try clear c100
                try clear c100b0
                try clear c106
                try clear c106b0
                try clear c108
                try clear c108b0
                try clear c109
                try clear c109b0
                try clear hx155_0
                try clear hx156_0
                try clear hx157_0
                try clear hx85_0
                try clear p155
                try clear p156
                try clear p157
                try clear p2
                try clear p6
                try clear p64
                try clear p8
                try clear p85
                try clear q155
                try clear q156
                try clear q157
                try clear q8
                try clear q85
                obtain ⟨kq, x18_104, rfl, HA, HJ104, zk, zi, HB⟩ := hcut
                cases kq with
                | zero => exact absurd HA.out (by simp [laws_FnTornLog.j8])
                | succ kj104 =>
                 have H := HA.out
                 clear HA
                 simp only [laws_FnTornLog.j8] at H
                 replace H := Option.bind_eq_some_iff.mp H
                 obtain ⟨⟨t158, t161⟩, A1110, H⟩ := H
                 replace H : (if (t158.length : Int) = x12_5 then (laws_FnTornLog.j9 kj104 x5_2 x12_5 (t161 != x18_104) t158 t161) else (laws_FnTornLog.j9 kj104 x5_2 x12_5 true t158 t161)) = some r := H
                 have A111 := Aside0.mk A1110
                 clear A1110
                 have HC112 := Aside0.mk H
                 clear H
                 obtain ⟨Ao113, co113, eo113⟩ := Kd.R_slice zi.out
                 subst eo113
                 go_upto_region 41 with (first | (go_at_call 9; (with_reducible refine (impl_ScanFrames.calls _ _ x6_5 t158 t161 _ ?side1 ?side2 A111.out).mono ?_); (case side1 => repeat (first | exact (Kd.R_reads' zi.out).2.2 | (with_reducible refine Kd.C_alloc ?_ _) | (with_reducible refine Kd.C_drewN ?_ _) | (with_reducible refine Kd.C_drew ?_))); (case side2 => exact (Kd.R_reads' zi.out).2.1); rintro e w114 ⟨v159, rfl, zq, hb⟩; have n0_ := Aside0.mk (Kd.R_below (by (with_reducible repeat (first | apply Kd.R_alloc | apply Kd.R_drewN | apply Kd.R_drew)); exact zk.out) hb); have n1_ := Aside0.mk (Kd.R_below (by (with_reducible repeat (first | apply Kd.R_alloc | apply Kd.R_drewN | apply Kd.R_drew)); exact zi.out) hb); have n2_ := Aside0.mk (Kd.S_lower (Kd.S_new' zq (Kd.R_lt (by (with_reducible repeat (first | apply Kd.R_alloc | apply Kd.R_drewN | apply Kd.R_drew)); exact zi.out))) (ze (by repeat (first | (with_reducible first | exact HB.out | apply zc | apply zb | apply zd) | exact HB.out)))); have n3_ := Aside0.mk (zh (by repeat (first | (with_reducible first | exact HB.out | apply zc | apply zb | apply zd) | exact HB.out)) hb); clear zk; clear zi; clear HB; have zk := n0_; have zi := n1_; have zy := n2_; have HB := n3_; clear n0_ n1_ n2_ n3_; (try clear hb); (try clear hb2); (try clear hk); (try clear hi); (try clear zq)) | ((with_reducible refine gate_dst (N := 19) rfl ?_); (try (refine zf (by rfl) ?_; dsimp only)); refine box_event ?hg (N := 19) ?hd (cs := #[.slice none 0 0, .int .i64 0]) (t := 25) ?hr ?_; (case hd => rfl); (case hg => rfl); (case hr => first | (go_simp; done) | (go_simp; rfl)); intro zp hg w115 hbox hb; have n0_ := Aside0.mk (Kd.R_below (by (with_reducible repeat (first | apply Kd.R_alloc | apply Kd.R_drewN | apply Kd.R_drew)); exact zk.out) hb); have n1_ := Aside0.mk (Kd.R_below (by (with_reducible repeat (first | apply Kd.R_alloc | apply Kd.R_drewN | apply Kd.R_drew)); exact zi.out) hb); have n2_ := Aside0.mk (Kd.S_below (by (with_reducible repeat (first | apply Kd.S_alloc | apply Kd.S_drewN | apply Kd.S_drew)); exact zy.out) hb); have n3_ := Aside0.mk (zh (by repeat (first | (with_reducible first | exact HB.out | apply zc | apply zb | apply zd) | exact HB.out)) hb); have n4_ := Aside0.mk (hbox); have n5_ := Aside0.mk ((by rw [hg]; exact (ze (by repeat (first | (with_reducible first | exact HB.out | apply zc | apply zb | apply zd) | exact HB.out))) : w.heap.size ≤ zp)); have n6_ := Aside0.mk ((by rw [hg]; exact (ze (by repeat (first | (with_reducible first | exact HB.out | apply zc | apply zb | apply zd) | exact HB.out))) : w.heap.size ≤ zp)); clear zk; clear zi; clear zy; clear HB; have zk := n0_; have zi := n1_; have zy := n2_; have HB := n3_; have zl := n4_; have GW162 := n5_; have zx := n6_; clear n0_ n1_ n2_ n3_ n4_ n5_ n6_; clear hb hbox hg; obtain ⟨Ao116, co116, eo116⟩ := Kd.S_slice zy.out; subst eo116; have zF : w115.cell? ⟨zp, 0, none⟩ = some (.slice none 0 0) := (blk_cell zl.out 0).trans rfl; have zG : w115.cell? ⟨zp, 1, none⟩ = some (.int .i64 0) := (blk_cell zl.out 1).trans rfl; have zH := blk_frozen zl.out 0; have zI := blk_frozen zl.out 1))
                 repeat (go_quiet (first | (go_at_call 9; (with_reducible refine (impl_ScanFrames.calls _ _ x6_5 t158 t161 _ ?side1 ?side2 A111.out).mono ?_); (case side1 => repeat (first | exact (Kd.R_reads' zi.out).2.2 | (with_reducible refine Kd.C_alloc ?_ _) | (with_reducible refine Kd.C_drewN ?_ _) | (with_reducible refine Kd.C_drew ?_))); (case side2 => exact (Kd.R_reads' zi.out).2.1); rintro e w114 ⟨v159, rfl, zq, hb⟩; have n0_ := Aside0.mk (Kd.R_below (by (with_reducible repeat (first | apply Kd.R_alloc | apply Kd.R_drewN | apply Kd.R_drew)); exact zk.out) hb); have n1_ := Aside0.mk (Kd.R_below (by (with_reducible repeat (first | apply Kd.R_alloc | apply Kd.R_drewN | apply Kd.R_drew)); exact zi.out) hb); have n2_ := Aside0.mk (Kd.S_lower (Kd.S_new' zq (Kd.R_lt (by (with_reducible repeat (first | apply Kd.R_alloc | apply Kd.R_drewN | apply Kd.R_drew)); exact zi.out))) (ze (by repeat (first | (with_reducible first | exact HB.out | apply zc | apply zb | apply zd) | exact HB.out)))); have n3_ := Aside0.mk (zh (by repeat (first | (with_reducible first | exact HB.out | apply zc | apply zb | apply zd) | exact HB.out)) hb); clear zk; clear zi; clear HB; have zk := n0_; have zi := n1_; have zy := n2_; have HB := n3_; clear n0_ n1_ n2_ n3_; (try clear hb); (try clear hb2); (try clear hk); (try clear hi); (try clear zq)) | ((with_reducible refine gate_dst (N := 19) rfl ?_); (try (refine zf (by rfl) ?_; dsimp only)); refine box_event ?hg (N := 19) ?hd (cs := #[.slice none 0 0, .int .i64 0]) (t := 25) ?hr ?_; (case hd => rfl); (case hg => rfl); (case hr => first | (go_simp; done) | (go_simp; rfl)); intro zp hg w115 hbox hb; have n0_ := Aside0.mk (Kd.R_below (by (with_reducible repeat (first | apply Kd.R_alloc | apply Kd.R_drewN | apply Kd.R_drew)); exact zk.out) hb); have n1_ := Aside0.mk (Kd.R_below (by (with_reducible repeat (first | apply Kd.R_alloc | apply Kd.R_drewN | apply Kd.R_drew)); exact zi.out) hb); have n2_ := Aside0.mk (Kd.S_below (by (with_reducible repeat (first | apply Kd.S_alloc | apply Kd.S_drewN | apply Kd.S_drew)); exact zy.out) hb); have n3_ := Aside0.mk (zh (by repeat (first | (with_reducible first | exact HB.out | apply zc | apply zb | apply zd) | exact HB.out)) hb); have n4_ := Aside0.mk (hbox); have n5_ := Aside0.mk ((by rw [hg]; exact (ze (by repeat (first | (with_reducible first | exact HB.out | apply zc | apply zb | apply zd) | exact HB.out))) : w.heap.size ≤ zp)); have n6_ := Aside0.mk ((by rw [hg]; exact (ze (by repeat (first | (with_reducible first | exact HB.out | apply zc | apply zb | apply zd) | exact HB.out))) : w.heap.size ≤ zp)); clear zk; clear zi; clear zy; clear HB; have zk := n0_; have zi := n1_; have zy := n2_; have HB := n3_; have zl := n4_; have GW162 := n5_; have zx := n6_; clear n0_ n1_ n2_ n3_ n4_ n5_ n6_; clear hb hbox hg; obtain ⟨Ao116, co116, eo116⟩ := Kd.S_slice zy.out; subst eo116; have zF : w115.cell? ⟨zp, 0, none⟩ = some (.slice none 0 0) := (blk_cell zl.out 0).trans rfl; have zG : w115.cell? ⟨zp, 1, none⟩ = some (.int .i64 0) := (blk_cell zl.out 1).trans rfl; have zH := blk_frozen zl.out 0; have zI := blk_frozen zl.out 1)); go_upto_region 41 with (first | (go_at_call 9; (with_reducible refine (impl_ScanFrames.calls _ _ x6_5 t158 t161 _ ?side1 ?side2 A111.out).mono ?_); (case side1 => repeat (first | exact (Kd.R_reads' zi.out).2.2 | (with_reducible refine Kd.C_alloc ?_ _) | (with_reducible refine Kd.C_drewN ?_ _) | (with_reducible refine Kd.C_drew ?_))); (case side2 => exact (Kd.R_reads' zi.out).2.1); rintro e w114 ⟨v159, rfl, zq, hb⟩; have n0_ := Aside0.mk (Kd.R_below (by (with_reducible repeat (first | apply Kd.R_alloc | apply Kd.R_drewN | apply Kd.R_drew)); exact zk.out) hb); have n1_ := Aside0.mk (Kd.R_below (by (with_reducible repeat (first | apply Kd.R_alloc | apply Kd.R_drewN | apply Kd.R_drew)); exact zi.out) hb); have n2_ := Aside0.mk (Kd.S_lower (Kd.S_new' zq (Kd.R_lt (by (with_reducible repeat (first | apply Kd.R_alloc | apply Kd.R_drewN | apply Kd.R_drew)); exact zi.out))) (ze (by repeat (first | (with_reducible first | exact HB.out | apply zc | apply zb | apply zd) | exact HB.out)))); have n3_ := Aside0.mk (zh (by repeat (first | (with_reducible first | exact HB.out | apply zc | apply zb | apply zd) | exact HB.out)) hb); clear zk; clear zi; clear HB; have zk := n0_; have zi := n1_; have zy := n2_; have HB := n3_; clear n0_ n1_ n2_ n3_; (try clear hb); (try clear hb2); (try clear hk); (try clear hi); (try clear zq)) | ((with_reducible refine gate_dst (N := 19) rfl ?_); (try (refine zf (by rfl) ?_; dsimp only)); refine box_event ?hg (N := 19) ?hd (cs := #[.slice none 0 0, .int .i64 0]) (t := 25) ?hr ?_; (case hd => rfl); (case hg => rfl); (case hr => first | (go_simp; done) | (go_simp; rfl)); intro zp hg w115 hbox hb; have n0_ := Aside0.mk (Kd.R_below (by (with_reducible repeat (first | apply Kd.R_alloc | apply Kd.R_drewN | apply Kd.R_drew)); exact zk.out) hb); have n1_ := Aside0.mk (Kd.R_below (by (with_reducible repeat (first | apply Kd.R_alloc | apply Kd.R_drewN | apply Kd.R_drew)); exact zi.out) hb); have n2_ := Aside0.mk (Kd.S_below (by (with_reducible repeat (first | apply Kd.S_alloc | apply Kd.S_drewN | apply Kd.S_drew)); exact zy.out) hb); have n3_ := Aside0.mk (zh (by repeat (first | (with_reducible first | exact HB.out | apply zc | apply zb | apply zd) | exact HB.out)) hb); have n4_ := Aside0.mk (hbox); have n5_ := Aside0.mk ((by rw [hg]; exact (ze (by repeat (first | (with_reducible first | exact HB.out | apply zc | apply zb | apply zd) | exact HB.out))) : w.heap.size ≤ zp)); have n6_ := Aside0.mk ((by rw [hg]; exact (ze (by repeat (first | (with_reducible first | exact HB.out | apply zc | apply zb | apply zd) | exact HB.out))) : w.heap.size ≤ zp)); clear zk; clear zi; clear zy; clear HB; have zk := n0_; have zi := n1_; have zy := n2_; have HB := n3_; have zl := n4_; have GW162 := n5_; have zx := n6_; clear n0_ n1_ n2_ n3_ n4_ n5_ n6_; clear hb hbox hg; obtain ⟨Ao116, co116, eo116⟩ := Kd.S_slice zy.out; subst eo116; have zF : w115.cell? ⟨zp, 0, none⟩ = some (.slice none 0 0) := (blk_cell zl.out 0).trans rfl; have zG : w115.cell? ⟨zp, 1, none⟩ = some (.int .i64 0) := (blk_cell zl.out 1).trans rfl; have zH := blk_frozen zl.out 0; have zI := blk_frozen zl.out 1)))
                 (try simp only [Act.put, List.setIfInBounds_toArray, List.set_cons_zero, List.set_cons_succ])
                 go_cut [189] (fun v189 wc => ∃ (kq : Nat) (x189_111 : Bool), v189 = .bool x189_111 ∧ Aside0 (laws_FnTornLog.j9 kq x5_2 x12_5 x189_111 t158 t161 = some r) ∧ Aside0 (kq ≤ kj104) ∧ Aside0 (Kd.R Kd.string 9 wc w.heap.size (fun _ => True) (.slice Ao75 x5_2.length co75) x5_2) ∧ Aside0 (Kd.S k50 50 wc w.heap.size (fun _ => True) (.slice Ao116 t158.length co116) t158) ∧ Aside0 (wc.heap[zp]? = some (.cells #[(.slice Ao116 t158.length co116), .int .i64 t161] 25 (0, 0))) ∧ Aside0 (Below w.heap.size w wc))
                 case first =>
                  have H := HC112.out
                  clear HC112
                  by_cases c118 : (t158.length : Int) = x12_5
                  ·as_aux_lemma =>
                    rw [if_pos c118] at H
                    have c118b0 : ((t158.length : Int) == x12_5) = true := beq_iff_eq.mpr c118
                    have c118b1 : ((t158.length : Int) != x12_5) = false := bne_eq_false_iff_eq.mpr c118
                    clear c118
                    (first | rw [c118b0] | (simp only [i64_w, i32_w]; rw [c118b0]) | skip)
                    have H' := Aside0.mk H
                    clear H
                    have zK : w115.cell? ⟨zp, 0, none⟩ = some (.slice none 0 0) := (blk_cell zl.out 0).trans rfl
                    have zL : w115.cell? ⟨zp, 1, none⟩ = some (.int .i64 0) := (blk_cell zl.out 1).trans rfl
                    have zM := blk_frozen zl.out 0
                    have zN := blk_frozen zl.out 1
                    go_wp2
                    repeat (go_quiet (fail); try go_wp2)
                    go_meet
                    case rel => exact ⟨_, ((t161 != x18_104)), (by first | rfl | (simp; done) | (simp [*]; done)), H', ⟨by have := HJ2.out; have := HK2.out; have := HJ11.out; have := HK4.out; have := HK5.out; have := HJ104.out; first | omega | exact Nat.le_refl _⟩, ⟨by (with_reducible repeat (first | apply Kd.R_alloc | apply Kd.R_drewN | apply Kd.R_drew)); exact Kd.R_mono (Kd.R_far (p := ⟨zp, 1, none⟩) (Kd.R_far (p := ⟨zp, 0, none⟩) (Kd.R_types zk.out zl.out (by decide)) (fun _ hk => hk.2) (.slice Ao116 t158.length co116)) (fun _ hk => hk.2) (.int .i64 t161)) (fun _ hk => trivial)⟩, ⟨by (with_reducible repeat (first | apply Kd.S_alloc | apply Kd.S_drewN | apply Kd.S_drew)); exact Kd.S_mono (Kd.S_far (p := ⟨zp, 1, none⟩) (Kd.S_far (p := ⟨zp, 0, none⟩) (Kd.S_types zy.out zl.out (by decide)) (fun _ hk => hk.2) (.slice Ao116 t158.length co116)) (fun _ hk => hk.2) (.int .i64 t161)) (fun _ hk => trivial)⟩, ⟨by (with_reducible repeat (first | refine blk_drewN ?_ _ | refine blk_drew ?_ | refine blk_alloc ?_ _)); refine blk_put (cs := #[.slice Ao116 t158.length co116, .int .i64 0]) ?_ 1 _ rfl; (with_reducible repeat (first | refine blk_drewN ?_ _ | refine blk_drew ?_ | refine blk_alloc ?_ _)); refine blk_put (cs := #[.slice none 0 0, .int .i64 0]) ?_ 0 _ rfl; (with_reducible repeat (first | refine blk_drewN ?_ _ | refine blk_drew ?_ | refine blk_alloc ?_ _)); exact zl.out⟩, ⟨by repeat (first | (with_reducible first | exact HB.out | apply zc | apply zb | apply zd | refine below_set ?_ zx.out) | exact HB.out)⟩⟩
                  ·as_aux_lemma =>
                    rw [if_neg c118] at H
                    have c118b0 : ((t158.length : Int) == x12_5) = false := beq_eq_false_iff_ne.mpr c118
                    have c118b1 : ((t158.length : Int) != x12_5) = true := bne_iff_ne.mpr c118
                    (first | rw [c118b0] | (simp only [i64_w, i32_w]; rw [c118b0]) | skip)
                    have H' := Aside0.mk H
                    clear H
                    have zO : w115.cell? ⟨zp, 0, none⟩ = some (.slice none 0 0) := (blk_cell zl.out 0).trans rfl
                    have zP : w115.cell? ⟨zp, 1, none⟩ = some (.int .i64 0) := (blk_cell zl.out 1).trans rfl
                    have zQ := blk_frozen zl.out 0
                    have zR := blk_frozen zl.out 1
                    go_wp2
                    repeat (go_quiet (fail); try go_wp2)
                    go_meet
                    case rel => exact ⟨_, (true), (by first | rfl | (simp; done) | (simp [*]; done)), H', ⟨by have := HJ2.out; have := HK2.out; have := HJ11.out; have := HK4.out; have := HK5.out; have := HJ104.out; first | omega | exact Nat.le_refl _⟩, ⟨by (with_reducible repeat (first | apply Kd.R_alloc | apply Kd.R_drewN | apply Kd.R_drew)); exact Kd.R_mono (Kd.R_far (p := ⟨zp, 1, none⟩) (Kd.R_far (p := ⟨zp, 0, none⟩) (Kd.R_types zk.out zl.out (by decide)) (fun _ hk => hk.2) (.slice Ao116 t158.length co116)) (fun _ hk => hk.2) (.int .i64 t161)) (fun _ hk => trivial)⟩, ⟨by (with_reducible repeat (first | apply Kd.S_alloc | apply Kd.S_drewN | apply Kd.S_drew)); exact Kd.S_mono (Kd.S_far (p := ⟨zp, 1, none⟩) (Kd.S_far (p := ⟨zp, 0, none⟩) (Kd.S_types zy.out zl.out (by decide)) (fun _ hk => hk.2) (.slice Ao116 t158.length co116)) (fun _ hk => hk.2) (.int .i64 t161)) (fun _ hk => trivial)⟩, ⟨by (with_reducible repeat (first | refine blk_drewN ?_ _ | refine blk_drew ?_ | refine blk_alloc ?_ _)); refine blk_put (cs := #[.slice Ao116 t158.length co116, .int .i64 0]) ?_ 1 _ rfl; (with_reducible repeat (first | refine blk_drewN ?_ _ | refine blk_drew ?_ | refine blk_alloc ?_ _)); refine blk_put (cs := #[.slice none 0 0, .int .i64 0]) ?_ 0 _ rfl; (with_reducible repeat (first | refine blk_drewN ?_ _ | refine blk_drew ?_ | refine blk_alloc ?_ _)); exact zl.out⟩, ⟨by repeat (first | (with_reducible first | exact HB.out | apply zc | apply zb | apply zd | refine below_set ?_ zx.out) | exact HB.out)⟩⟩
                 case rest =>
                  clear HC112
                  try clear c1
                  try clear p1
                  try clear q1
                  try clear hx1
                  try clear c2
                  try clear p2
                  try clear hcv3
                  try clear c4
                  try clear c4b0
                  try clear c4b1
                  try clear hcv4
                  try clear c5
                  try clear hcv5
                  try clear p6
                  try clear hcv6
                  try clear c7
                  try clear c8
                  try clear p8
                  try clear q8
                  try clear hx8
                  try clear hf8
                  try clear c9
                  try clear c10
                  try clear c11
                  try clear c13
                  try clear c13b0
                  try clear c15
                  try clear p15
                  try clear q15
                  try clear hx15
                  try clear c17
                  try clear c17b0
                  try clear c18
                  try clear c18b0
                  try clear c18b1
                  try clear c19
                  try clear c19b0
                  try clear c19b1
                  try clear c20
                  try clear c20b0
                  try clear c20b1
                  try clear c22
                  try clear c22b0
                  try clear c22b1
                  try clear c23
                  try clear c23b0
                  try clear c24
                  try clear c24b0
                  try clear c25
                  try clear c25b0
                  try clear c26
                  try clear c27
                  try clear c28
                  try clear hcv31
                  try clear hcv35
                  try clear hcv42
                  try clear c45
                  try clear c45b0
                  try clear c45b1
                  try clear c46
                  try clear c46b0
                  try clear c46b1
                  try clear c47
                  try clear c47b0
                  try clear c47b1
                  try clear c49
                  try clear c49b0
                  try clear c49b1
                  try clear c50
                  try clear c50b0
                  try clear c51
                  try clear c51b0
                  try clear c52
                  try clear c52b0
                  try clear c53
                  try clear c54
                  try clear c55
                  try clear hcv58
                  try clear hcv62
                  try clear p64
                  try clear hcv69
                  try clear c72
                  try clear c72b0
                  try clear c73
                  try clear c76
                  try clear c76b0
                  try clear c81
                  try clear c81b0
                  try clear c82
                  try clear c83
                  try clear c83b0
                  try clear c84
                  try clear c84b0
                  try clear p85
                  try clear q85
                  try clear hx85
                  try clear hf85
                  try clear c88
                  try clear c88b0
                  try clear c89
                  try clear c89b0
                  try clear c90
                  try clear c90b0
                  try clear c91
                  try clear c91b0
                  try clear c92
                  try clear c92b0
                  try clear c92b1
                  try clear c93
                  try clear c93b0
                  try clear c97
                  try clear c97b0
                  try clear c98
                  try clear c98b0
                  try clear c99
                  try clear c99b0
                  try clear c100
                  try clear c100b0
                  try clear c106
                  try clear c106b0
                  try clear c108
                  try clear c108b0
                  try clear c109
                  try clear c109b0
                  try clear c118
                  try clear c118b0
                  try clear c118b1
                  try clear zF
                  try clear zG
                  try clear zK
                  try clear zL
                  try clear zO
                  try clear zP
                  try clear zH
                  try clear zI
                  try clear zM
                  try clear zN
                  try clear zQ
                  try clear zR
                  try clear hx155_0
                  try clear hx156_0
                  try clear hx157_0
                  try clear hx85_0
                  try clear p1
                  try clear p15
                  try clear p155
                  try clear p156
                  try clear p157
                  try clear p2
                  try clear p6
                  try clear p64
                  try clear p8
                  try clear p85
                  try clear q1
                  try clear q15
                  try clear q155
                  try clear q156
                  try clear q157
                  try clear q8
                  try clear q85
                  obtain ⟨kq, x189_111, rfl, HA, HJ111, zk, zm, zl, HB⟩ := hcut
                  cases kq with
                  | zero => exact absurd HA.out (by simp [laws_FnTornLog.j9])
                  | succ kj111 =>
                   have H := HA.out
                   clear HA
                   simp only [laws_FnTornLog.j9] at H
                   by_cases c121 : x189_111 = true
                   ·as_aux_lemma =>
                     subst c121
                     have H1 : none = some r := by rw [if_pos rfl] at H; exact H
                     clear H
                     have H := H1
                     clear H1
                     exact absurd H (by simp)
                   ·replace c121 := Bool.eq_false_iff.mpr c121
                    subst c121
                    have H1 : (laws_FnTornLog.l5 kj111 x5_2 x12_5 0 t158 t161) = some r := by rw [if_neg (show ¬ (false = true) by decide)] at H; exact H
                    clear H
                    have H := H1
                    clear H1
                    have H' := Aside0.mk H
                    clear H
                    go_wp2
                    repeat (go_quiet (fail); try go_wp2)
                    go_loopg [20] kj111 (fun kq v20 w' => ∃ (x20_8 : Int), v20 = .int .i64 x20_8 ∧ Aside0 (laws_FnTornLog.l5 kq x5_2 x12_5 x20_8 t158 t161 = some r) ∧ Aside0 (kq ≤ kj111) ∧ Aside0 (Kd.R Kd.string 9 w' w.heap.size (fun _ => True) (.slice Ao75 x5_2.length co75) x5_2) ∧ Aside0 (Kd.S k50 50 w' w.heap.size (fun _ => True) (.slice Ao116 t158.length co116) t158) ∧ Aside0 (w'.heap[zp]? = some (.cells #[(.slice Ao116 t158.length co116), .int .i64 t161] 25 (0, 0))) ∧ Aside0 (Below w.heap.size w w'))
                    case atStart => exact ⟨(0), (by first | rfl | (simp; done) | (simp [*]; done)), H', ⟨Nat.le_refl _⟩, ⟨by (with_reducible repeat (first | apply Kd.R_alloc | apply Kd.R_drewN | apply Kd.R_drew)); exact zk.out⟩, ⟨by (with_reducible repeat (first | apply Kd.S_alloc | apply Kd.S_drewN | apply Kd.S_drew)); exact zm.out⟩, ⟨by (with_reducible repeat (first | refine blk_drewN ?_ _ | refine blk_drew ?_ | refine blk_alloc ?_ _)); exact zl.out⟩, ⟨by repeat (first | (with_reducible first | exact HB.out | apply zc | apply zb | apply zd | refine below_set ?_ zx.out) | exact HB.out)⟩⟩
                    case round =>
                     clear H'
                     try clear c1
                     try clear p1
                     try clear q1
                     try clear hx1
                     try clear c2
                     try clear p2
                     try clear hcv3
                     try clear c4
                     try clear c4b0
                     try clear c4b1
                     try clear hcv4
                     try clear c5
                     try clear hcv5
                     try clear p6
                     try clear hcv6
                     try clear c7
                     try clear c8
                     try clear p8
                     try clear q8
                     try clear hx8
                     try clear hf8
                     try clear c9
                     try clear c10
                     try clear c11
                     try clear c12
                     try clear c13
                     try clear c13b0
                     try clear c15
                     try clear p15
                     try clear q15
                     try clear hx15
                     try clear c17
                     try clear c17b0
                     try clear c18
                     try clear c18b0
                     try clear c18b1
                     try clear c19
                     try clear c19b0
                     try clear c19b1
                     try clear c20
                     try clear c20b0
                     try clear c20b1
                     try clear c22
                     try clear c22b0
                     try clear c22b1
                     try clear c23
                     try clear c23b0
                     try clear c24
                     try clear c24b0
                     try clear c25
                     try clear c25b0
                     try clear c26
                     try clear c27
                     try clear c28
                     try clear hcv31
                     try clear hcv35
                     try clear hcv42
                     try clear c45
                     try clear c45b0
                     try clear c45b1
                     try clear c46
                     try clear c46b0
                     try clear c46b1
                     try clear c47
                     try clear c47b0
                     try clear c47b1
                     try clear c49
                     try clear c49b0
                     try clear c49b1
                     try clear c50
                     try clear c50b0
                     try clear c51
                     try clear c51b0
                     try clear c52
                     try clear c52b0
                     try clear c53
                     try clear c54
                     try clear c55
                     try clear hcv58
                     try clear hcv62
                     try clear p64
                     try clear hcv69
                     try clear c72
                     try clear c72b0
                     try clear c73
                     try clear c76
                     try clear c76b0
                     try clear c81
                     try clear c81b0
                     try clear c82
                     try clear c83
                     try clear c83b0
                     try clear c84
                     try clear c84b0
                     try clear p85
                     try clear q85
                     try clear hx85
                     try clear hf85
                     try clear c88
                     try clear c88b0
                     try clear c89
                     try clear c89b0
                     try clear c90
                     try clear c90b0
                     try clear c91
                     try clear c91b0
                     try clear c92
                     try clear c92b0
                     try clear c92b1
                     try clear c93
                     try clear c93b0
                     try clear c97
                     try clear c97b0
                     try clear c98
                     try clear c98b0
                     try clear c99
                     try clear c99b0
                     try clear c100
                     try clear c100b0
                     try clear c106
                     try clear c106b0
                     try clear c108
                     try clear c108b0
                     try clear c109
                     try clear c109b0
                     try clear c118
                     try clear c118b0
                     try clear c118b1
                     try clear c121
                     try clear zF
                     try clear zG
                     try clear zK
                     try clear zL
                     try clear zO
                     try clear zP
                     try clear zH
                     try clear zI
                     try clear zM
                     try clear zN
                     try clear zQ
                     try clear zR
                     try clear hx155_0
                     try clear hx156_0
                     try clear hx157_0
                     try clear hx85_0
                     try clear p1
                     try clear p15
                     try clear p155
                     try clear p156
                     try clear p157
                     try clear p2
                     try clear p6
                     try clear p64
                     try clear p8
                     try clear p85
                     try clear q1
                     try clear q15
                     try clear q155
                     try clear q156
                     try clear q157
                     try clear q8
                     try clear q85
                     obtain ⟨x20_8, rfl, HA, HK8, zk, zm, zl, HB⟩ := hrel
                     cases gk with
                     | zero => exact absurd HA.out (by simp [laws_FnTornLog.l5])
                     | succ k8 =>
                      have H := HA.out
                      clear HA
                      simp only [laws_FnTornLog.l5] at H
                      by_cases c122 : x20_8 < x12_5
                      ·rw [if_pos c122] at H
                       have c122b0 : decide (x20_8 < x12_5) = true := decide_eq_true c122
                       clear c122
                       by_cases c123 : 0 ≤ x20_8
                       ·rw [if_pos c123] at H
                        have c123b0 : decide (0 ≤ x20_8) = true := decide_eq_true c123
                        clear c123
                        by_cases c124 : x20_8 < (t158.length : Int)
                        ·rw [if_pos c124] at H
                         have c124b0 : decide (x20_8 < (t158.length : Int)) = true := decide_eq_true c124
                         clear c124
                         by_cases c125 : x20_8 < (x5_2.length : Int)
                         ·rw [if_pos c125] at H
                          have c125b0 : decide (x20_8 < (x5_2.length : Int)) = true := decide_eq_true c125
                          clear c125
                          by_cases c126 : (strOfNums ((rd_T50 t158 x20_8).f0)).toList = (rdOf ByteArray.empty x5_2 x20_8).toList
                          ·as_aux_lemma =>
                            rw [if_pos c126] at H
                            have c126b0 : ((strOfNums ((rd_T50 t158 x20_8).f0)).toList == (rdOf ByteArray.empty x5_2 x20_8).toList) = true := beq_iff_eq.mpr c126
                            have c126b1 : ((strOfNums ((rd_T50 t158 x20_8).f0)).toList != (rdOf ByteArray.empty x5_2 x20_8).toList) = false := bne_eq_false_iff_eq.mpr c126
                            clear c126
                            have H' := Aside0.mk H
                            clear H
                            have zX : wr.cell? ⟨zp, 0, none⟩ = some (.slice Ao116 t158.length co116) := (blk_cell zl.out 0).trans rfl
                            have zY : wr.cell? ⟨zp, 1, none⟩ = some (.int .i64 t161) := (blk_cell zl.out 1).trans rfl
                            have zZ := blk_frozen zl.out 0
                            have zab := blk_frozen zl.out 1
                            have p163 : 0 ≤ (x20_8 : Int) := of_decide_eq_true (by first | (with_reducible assumption) | assumption)
                            have q163 : x20_8 < (t158.length : Int) := of_decide_eq_true (by first | (with_reducible assumption) | assumption)
                            obtain ⟨ad163, A163_0, c163_0, e163, hx163_0, hl163_0, hi163_0⟩ := at_T50 (Kd.S_reads' zm.out).2.2 x20_8 p163 q163
                            cases e163
                            obtain ⟨ce163, hce163, hMe163, hcc163⟩ := Kd.S_get zm.out z50 x20_8 p163 (by first | exact q163 | exact of_decide_eq_true (by first | (with_reducible assumption) | assumption) | (have e_ := (Kd.S_reads' zm.out).1; omega))
                            obtain ⟨ve163_0, rfl, ge163_0⟩ := k50_openM hMe163
                            have hv163_0 := hcc163 0 _ rfl
                            rw [Nat.add_zero, show (k50).sz = 1 from rfl, Nat.mul_one] at hv163_0
                            replace hv163_0 := Option.some.inj (hv163_0.symm.trans hx163_0)
                            rw [hv163_0] at ge163_0
                            have HL163_0 := Aside0.mk (show Kd.R (Kd.int .u8) 5 _ _ _ _ ((rd_T50 t158 x20_8).f0) from ge163_0)
                            clear hv163_0 ge163_0
                            clear hcc163 hce163
                            have HR163_0 := Aside0.mk hi163_0
                            have HC163_0 := Aside0.mk hl163_0
                            clear hi163_0 hl163_0
                            replace p163 := eq_true p163
                            replace q163 := eq_true q163
                            have hcv128 := Kd.C_string (P := Try.prog) (A := A163_0) (c := c163_0) Try.underlying22 Try.underlying5 Try.underlying9 (by repeat (first | (with_reducible exact HR163_0.out) | (with_reducible refine Kd.C_alloc ?_ _) | (with_reducible refine Kd.C_drewN ?_ _) | (with_reducible refine Kd.C_drew ?_) | exact HR163_0.out))
                            have hcv128d := fun m_ : Nat => Kd.C_string (P := Try.prog) (A := A163_0) (c := c163_0) Try.underlying22 Try.underlying5 Try.underlying9 (Kd.C_drewN HR163_0.out m_)
                            have p164 : 0 ≤ (x20_8 : Int) := of_decide_eq_true (by first | (with_reducible assumption) | assumption)
                            have q164 : x20_8 < (x5_2.length : Int) := of_decide_eq_true (by first | (with_reducible assumption) | assumption)
                            obtain ⟨ad164, e164, hx164_0⟩ := Kd.at_string (Kd.R_reads' zk.out).2.2 x20_8 p164 q164
                            cases e164
                            replace p164 := eq_true p164
                            replace q164 := eq_true q164
                            go_wp2
                            repeat (go_quiet (fail); try go_wp2)
                            go_roundg k8
                            case measure => have := HJ2.out; have := HK2.out; have := HJ11.out; have := HK4.out; have := HK5.out; have := HJ104.out; have := HJ111.out; have := HK8.out; omega
                            case rel => exact ⟨(wrap64 (x20_8 + 1)), (by first | rfl | (simp; done) | (simp [*]; done)), H', ⟨by have := HJ2.out; have := HK2.out; have := HJ11.out; have := HK4.out; have := HK5.out; have := HJ104.out; have := HJ111.out; have := HK8.out; omega⟩, ⟨by (with_reducible repeat (first | apply Kd.R_alloc | apply Kd.R_drewN | apply Kd.R_drew)); exact zk.out⟩, ⟨by (with_reducible repeat (first | apply Kd.S_alloc | apply Kd.S_drewN | apply Kd.S_drew)); exact zm.out⟩, ⟨by (with_reducible repeat (first | refine blk_drewN ?_ _ | refine blk_drew ?_ | refine blk_alloc ?_ _)); exact zl.out⟩, ⟨by repeat (first | (with_reducible first | exact HB.out | apply zc | apply zb | apply zd | refine below_set ?_ zx.out) | exact HB.out)⟩⟩
                          ·rw [if_neg c126] at H
                           have c126b0 : ((strOfNums ((rd_T50 t158 x20_8).f0)).toList == (rdOf ByteArray.empty x5_2 x20_8).toList) = false := beq_eq_false_iff_ne.mpr c126
                           have c126b1 : ((strOfNums ((rd_T50 t158 x20_8).f0)).toList != (rdOf ByteArray.empty x5_2 x20_8).toList) = true := bne_iff_ne.mpr c126
                           exact absurd H (by simp)
                         ·rw [if_neg c125] at H
                          exact absurd H (by simp)
                        ·rw [if_neg c124] at H
                         exact absurd H (by simp)
                       ·rw [if_neg c123] at H
                        exact absurd H (by simp)
                      ·as_aux_lemma =>
                        rw [if_neg c122] at H
                        have c122b0 : decide (x20_8 < x12_5) = false := decide_eq_false c122
                        clear c122
                        obtain ⟨y165, hy165⟩ : ∃ y_ : List Int, y_ = (([7] : List Int)) := ⟨_, rfl⟩
                        replace H : ((impl_Frame.f y165).bind fun t168 => (some ((t168.length : Int) == 4))) = some r := by first | (rw [hy165]; with_reducible exact H) | (have H2_ := (Option.bind_some _ _).symm.trans H; rw [hy165]; with_reducible exact H2_) | (have H2_ := (Option.bind_some _ _).symm.trans H; with_reducible exact H2_) | with_reducible exact H | (rw [hy165]; exact H) | exact H
                        have Ny165 := Aside0.mk hy165
                        clear hy165
                        replace H := Option.bind_eq_some_iff.mp H
                        obtain ⟨t168, A1310, H⟩ := H
                        replace H : (some ((t168.length : Int) == 4)) = some r := H
                        have A131 := Aside0.mk A1310
                        clear A1310
                        obtain rfl := Option.some.inj H
                        go_wp2_with (first | ((with_reducible refine gate_dst (N := 207) rfl ?_); (try (refine zf (by rfl) ?_; dsimp only)); refine Kd.R_lit (Kd.int .u8) _ 5 ?hg (N := 207) ?hd (xs := ([7] : List Int)) (inner := [.int .u8 7]) (ok := fun _ => True) (okp := fun _ => True) ?hr ?hp (fun _ hk => hk) trivial (Below.refl _ _) (Nat.le_refl _) (by simp) ?_; (case hd => rfl); (case hg => rfl); (case hr => first | (go_simp; done) | (go_simp; rfl)); (case hp => exact (Reps.one (show Kd.M (Kd.int .u8) _ _ _ 7 [.int .u8 7] from rfl) (Reps.none _ _))); intro v166 w132 zw hb hg_ hnew_; clear hg_ hnew_; (first | rw [← Ny165.out] at zw | (simp only [Int.reduceToNat] at zw; rw [← Ny165.out] at zw)); have n0_ := Aside0.mk (Kd.R_below (by (with_reducible repeat (first | apply Kd.R_alloc | apply Kd.R_drewN | apply Kd.R_drew)); exact zk.out) hb); have n1_ := Aside0.mk (Kd.S_elder' (by (with_reducible repeat (first | apply Kd.S_alloc | apply Kd.S_drewN | apply Kd.S_drew)); exact zm.out) (Kd.R_base zw) hb); have n2_ := Aside0.mk (Kd.R_lower zw (ze (by repeat (first | (with_reducible first | exact HB.out | apply zc | apply zb | apply zd | refine below_set ?_ zx.out) | exact HB.out)))); have n3_ := Aside0.mk (blk_below (g := zp) (o := .cells #[.slice Ao116 t158.length co116, .int .i64 t161] 25 (0, 0)) (by (with_reducible repeat (first | refine blk_drewN ?_ _ | refine blk_drew ?_ | refine blk_alloc ?_ _)); exact zl.out) hb); have n4_ := Aside0.mk (zh (by repeat (first | (with_reducible first | exact HB.out | apply zc | apply zb | apply zd | refine below_set ?_ zx.out) | exact HB.out)) hb); clear zk; clear zm; clear zl; clear HB; have zk := n0_; have zm := n1_; have zr := n2_; have zl := n3_; have HB := n4_; clear n0_ n1_ n2_ n3_ n4_; clear hb zw; obtain ⟨Ao134, co134, eo134⟩ := Kd.R_slice zr.out; subst eo134) | (go_at_call 24; (with_reducible refine (impl_Frame.calls _ _ y165 t168 _ ?side1 ?side2 A131.out).mono ?_); (case side1 => repeat (first | exact (Kd.R_reads' zr.out).2.2 | (with_reducible refine Kd.C_alloc ?_ _) | (with_reducible refine Kd.C_drewN ?_ _) | (with_reducible refine Kd.C_drew ?_))); (case side2 => exact (Kd.R_reads' zr.out).2.1); rintro e w135 ⟨v169, rfl, zq, hb⟩; have n0_ := Aside0.mk (Kd.R_below (by (with_reducible repeat (first | apply Kd.R_alloc | apply Kd.R_drewN | apply Kd.R_drew)); exact zk.out) hb); have n1_ := Aside0.mk (Kd.S_elder' (by (with_reducible repeat (first | apply Kd.S_alloc | apply Kd.S_drewN | apply Kd.S_drew)); exact zm.out) (Kd.R_base zq) hb); have n2_ := Aside0.mk (Kd.R_elder' (by (with_reducible repeat (first | apply Kd.R_alloc | apply Kd.R_drewN | apply Kd.R_drew)); exact zr.out) (Kd.R_base zq) hb); have n3_ := Aside0.mk (Kd.R_lower (Kd.R_new' zq (Kd.R_lt (by (with_reducible repeat (first | apply Kd.R_alloc | apply Kd.R_drewN | apply Kd.R_drew)); exact zr.out))) (ze (by repeat (first | (with_reducible first | exact HB.out | apply zc | apply zb | apply zd | refine below_set ?_ zx.out) | exact HB.out)))); have n4_ := Aside0.mk (blk_below (g := zp) (o := .cells #[.slice Ao116 t158.length co116, .int .i64 t161] 25 (0, 0)) (by (with_reducible repeat (first | refine blk_drewN ?_ _ | refine blk_drew ?_ | refine blk_alloc ?_ _)); exact zl.out) hb); have n5_ := Aside0.mk (zh (by repeat (first | (with_reducible first | exact HB.out | apply zc | apply zb | apply zd | refine below_set ?_ zx.out) | exact HB.out)) hb); clear zk; clear zm; clear zr; clear zl; clear HB; have zk := n0_; have zm := n1_; have zr := n2_; have zJ := n3_; have zl := n4_; have HB := n5_; clear n0_ n1_ n2_ n3_ n4_ n5_; (try clear hb); (try clear hb2); (try clear hk); (try clear hi); (try clear zq); obtain ⟨Ao136, co136, eo136⟩ := Kd.R_slice zJ.out; subst eo136))
                        repeat (go_quiet (first | ((with_reducible refine gate_dst (N := 207) rfl ?_); (try (refine zf (by rfl) ?_; dsimp only)); refine Kd.R_lit (Kd.int .u8) _ 5 ?hg (N := 207) ?hd (xs := ([7] : List Int)) (inner := [.int .u8 7]) (ok := fun _ => True) (okp := fun _ => True) ?hr ?hp (fun _ hk => hk) trivial (Below.refl _ _) (Nat.le_refl _) (by simp) ?_; (case hd => rfl); (case hg => rfl); (case hr => first | (go_simp; done) | (go_simp; rfl)); (case hp => exact (Reps.one (show Kd.M (Kd.int .u8) _ _ _ 7 [.int .u8 7] from rfl) (Reps.none _ _))); intro v166 w132 zw hb hg_ hnew_; clear hg_ hnew_; (first | rw [← Ny165.out] at zw | (simp only [Int.reduceToNat] at zw; rw [← Ny165.out] at zw)); have n0_ := Aside0.mk (Kd.R_below (by (with_reducible repeat (first | apply Kd.R_alloc | apply Kd.R_drewN | apply Kd.R_drew)); exact zk.out) hb); have n1_ := Aside0.mk (Kd.S_elder' (by (with_reducible repeat (first | apply Kd.S_alloc | apply Kd.S_drewN | apply Kd.S_drew)); exact zm.out) (Kd.R_base zw) hb); have n2_ := Aside0.mk (Kd.R_lower zw (ze (by repeat (first | (with_reducible first | exact HB.out | apply zc | apply zb | apply zd | refine below_set ?_ zx.out) | exact HB.out)))); have n3_ := Aside0.mk (blk_below (g := zp) (o := .cells #[.slice Ao116 t158.length co116, .int .i64 t161] 25 (0, 0)) (by (with_reducible repeat (first | refine blk_drewN ?_ _ | refine blk_drew ?_ | refine blk_alloc ?_ _)); exact zl.out) hb); have n4_ := Aside0.mk (zh (by repeat (first | (with_reducible first | exact HB.out | apply zc | apply zb | apply zd | refine below_set ?_ zx.out) | exact HB.out)) hb); clear zk; clear zm; clear zl; clear HB; have zk := n0_; have zm := n1_; have zr := n2_; have zl := n3_; have HB := n4_; clear n0_ n1_ n2_ n3_ n4_; clear hb zw; obtain ⟨Ao134, co134, eo134⟩ := Kd.R_slice zr.out; subst eo134) | (go_at_call 24; (with_reducible refine (impl_Frame.calls _ _ y165 t168 _ ?side1 ?side2 A131.out).mono ?_); (case side1 => repeat (first | exact (Kd.R_reads' zr.out).2.2 | (with_reducible refine Kd.C_alloc ?_ _) | (with_reducible refine Kd.C_drewN ?_ _) | (with_reducible refine Kd.C_drew ?_))); (case side2 => exact (Kd.R_reads' zr.out).2.1); rintro e w135 ⟨v169, rfl, zq, hb⟩; have n0_ := Aside0.mk (Kd.R_below (by (with_reducible repeat (first | apply Kd.R_alloc | apply Kd.R_drewN | apply Kd.R_drew)); exact zk.out) hb); have n1_ := Aside0.mk (Kd.S_elder' (by (with_reducible repeat (first | apply Kd.S_alloc | apply Kd.S_drewN | apply Kd.S_drew)); exact zm.out) (Kd.R_base zq) hb); have n2_ := Aside0.mk (Kd.R_elder' (by (with_reducible repeat (first | apply Kd.R_alloc | apply Kd.R_drewN | apply Kd.R_drew)); exact zr.out) (Kd.R_base zq) hb); have n3_ := Aside0.mk (Kd.R_lower (Kd.R_new' zq (Kd.R_lt (by (with_reducible repeat (first | apply Kd.R_alloc | apply Kd.R_drewN | apply Kd.R_drew)); exact zr.out))) (ze (by repeat (first | (with_reducible first | exact HB.out | apply zc | apply zb | apply zd | refine below_set ?_ zx.out) | exact HB.out)))); have n4_ := Aside0.mk (blk_below (g := zp) (o := .cells #[.slice Ao116 t158.length co116, .int .i64 t161] 25 (0, 0)) (by (with_reducible repeat (first | refine blk_drewN ?_ _ | refine blk_drew ?_ | refine blk_alloc ?_ _)); exact zl.out) hb); have n5_ := Aside0.mk (zh (by repeat (first | (with_reducible first | exact HB.out | apply zc | apply zb | apply zd | refine below_set ?_ zx.out) | exact HB.out)) hb); clear zk; clear zm; clear zr; clear zl; clear HB; have zk := n0_; have zm := n1_; have zr := n2_; have zJ := n3_; have zl := n4_; have HB := n5_; clear n0_ n1_ n2_ n3_ n4_ n5_; (try clear hb); (try clear hb2); (try clear hk); (try clear hi); (try clear zq); obtain ⟨Ao136, co136, eo136⟩ := Kd.R_slice zJ.out; subst eo136)); try go_wp2_with (first | ((with_reducible refine gate_dst (N := 207) rfl ?_); (try (refine zf (by rfl) ?_; dsimp only)); refine Kd.R_lit (Kd.int .u8) _ 5 ?hg (N := 207) ?hd (xs := ([7] : List Int)) (inner := [.int .u8 7]) (ok := fun _ => True) (okp := fun _ => True) ?hr ?hp (fun _ hk => hk) trivial (Below.refl _ _) (Nat.le_refl _) (by simp) ?_; (case hd => rfl); (case hg => rfl); (case hr => first | (go_simp; done) | (go_simp; rfl)); (case hp => exact (Reps.one (show Kd.M (Kd.int .u8) _ _ _ 7 [.int .u8 7] from rfl) (Reps.none _ _))); intro v166 w132 zw hb hg_ hnew_; clear hg_ hnew_; (first | rw [← Ny165.out] at zw | (simp only [Int.reduceToNat] at zw; rw [← Ny165.out] at zw)); have n0_ := Aside0.mk (Kd.R_below (by (with_reducible repeat (first | apply Kd.R_alloc | apply Kd.R_drewN | apply Kd.R_drew)); exact zk.out) hb); have n1_ := Aside0.mk (Kd.S_elder' (by (with_reducible repeat (first | apply Kd.S_alloc | apply Kd.S_drewN | apply Kd.S_drew)); exact zm.out) (Kd.R_base zw) hb); have n2_ := Aside0.mk (Kd.R_lower zw (ze (by repeat (first | (with_reducible first | exact HB.out | apply zc | apply zb | apply zd | refine below_set ?_ zx.out) | exact HB.out)))); have n3_ := Aside0.mk (blk_below (g := zp) (o := .cells #[.slice Ao116 t158.length co116, .int .i64 t161] 25 (0, 0)) (by (with_reducible repeat (first | refine blk_drewN ?_ _ | refine blk_drew ?_ | refine blk_alloc ?_ _)); exact zl.out) hb); have n4_ := Aside0.mk (zh (by repeat (first | (with_reducible first | exact HB.out | apply zc | apply zb | apply zd | refine below_set ?_ zx.out) | exact HB.out)) hb); clear zk; clear zm; clear zl; clear HB; have zk := n0_; have zm := n1_; have zr := n2_; have zl := n3_; have HB := n4_; clear n0_ n1_ n2_ n3_ n4_; clear hb zw; obtain ⟨Ao134, co134, eo134⟩ := Kd.R_slice zr.out; subst eo134) | (go_at_call 24; (with_reducible refine (impl_Frame.calls _ _ y165 t168 _ ?side1 ?side2 A131.out).mono ?_); (case side1 => repeat (first | exact (Kd.R_reads' zr.out).2.2 | (with_reducible refine Kd.C_alloc ?_ _) | (with_reducible refine Kd.C_drewN ?_ _) | (with_reducible refine Kd.C_drew ?_))); (case side2 => exact (Kd.R_reads' zr.out).2.1); rintro e w135 ⟨v169, rfl, zq, hb⟩; have n0_ := Aside0.mk (Kd.R_below (by (with_reducible repeat (first | apply Kd.R_alloc | apply Kd.R_drewN | apply Kd.R_drew)); exact zk.out) hb); have n1_ := Aside0.mk (Kd.S_elder' (by (with_reducible repeat (first | apply Kd.S_alloc | apply Kd.S_drewN | apply Kd.S_drew)); exact zm.out) (Kd.R_base zq) hb); have n2_ := Aside0.mk (Kd.R_elder' (by (with_reducible repeat (first | apply Kd.R_alloc | apply Kd.R_drewN | apply Kd.R_drew)); exact zr.out) (Kd.R_base zq) hb); have n3_ := Aside0.mk (Kd.R_lower (Kd.R_new' zq (Kd.R_lt (by (with_reducible repeat (first | apply Kd.R_alloc | apply Kd.R_drewN | apply Kd.R_drew)); exact zr.out))) (ze (by repeat (first | (with_reducible first | exact HB.out | apply zc | apply zb | apply zd | refine below_set ?_ zx.out) | exact HB.out)))); have n4_ := Aside0.mk (blk_below (g := zp) (o := .cells #[.slice Ao116 t158.length co116, .int .i64 t161] 25 (0, 0)) (by (with_reducible repeat (first | refine blk_drewN ?_ _ | refine blk_drew ?_ | refine blk_alloc ?_ _)); exact zl.out) hb); have n5_ := Aside0.mk (zh (by repeat (first | (with_reducible first | exact HB.out | apply zc | apply zb | apply zd | refine below_set ?_ zx.out) | exact HB.out)) hb); clear zk; clear zm; clear zr; clear zl; clear HB; have zk := n0_; have zm := n1_; have zr := n2_; have zJ := n3_; have zl := n4_; have HB := n5_; clear n0_ n1_ n2_ n3_ n4_ n5_; (try clear hb); (try clear hb2); (try clear hk); (try clear hi); (try clear zq); obtain ⟨Ao136, co136, eo136⟩ := Kd.R_slice zJ.out; subst eo136)))
                        go_ret
                        exact ⟨by first | rfl | (simp [errW_none, errW_some] <;> rfl) | (simp [*, errW_none, errW_some] <;> rfl), by repeat (first | (with_reducible first | exact HB.out | apply zc | apply zb | apply zd | refine below_set ?_ zx.out) | exact HB.out)⟩
 
/-- THE ONE PURE STATEMENT of laws_FnTornLog: yours. -/
def laws_FnTornLog.Pure : Prop := ∀ (l0 : List Int) (l1 : List Int), l0.length ≤ maxLen → l0.length * 1 ≤ 140737488351232 → (∀ x ∈ l0, (Lit.int .u8 x).wf = true) → l1.length ≤ maxLen → l1.length * 1 ≤ 140737488351232 → (∀ x ∈ l1, (Lit.int .u8 x).wf = true) → ∃ k, laws_FnTornLog.f k l0 l1 = some true
theorem laws_FnTornLog.walk (P : laws_FnTornLog.Pure) (a0 : Option Addr) (len0 cap0 : Nat) (z0 : List Int) (a1 : Option Addr) (len1 cap1 : Nat) (z1 : List Int) (w : World) (w0 : (a0 = none ∧ len0 = 0 ∧ cap0 = 0 ∧ z0 = []) ∨ ∃ x, a0 = some x ∧ len0 ≤ cap0 ∧ cap0 ≤ maxLen ∧ z0.length = cap0 ∧ (∀ i, i < z0.length → w.cell? (x.add i) = some (.int .u8 (z0.getD i 0))) ∧ ∀ n ∈ z0, (Lit.int .u8 n).wf = true) (y0 : len0 * 1 ≤ 140737488351232) (w1 : (a1 = none ∧ len1 = 0 ∧ cap1 = 0 ∧ z1 = []) ∨ ∃ x, a1 = some x ∧ len1 ≤ cap1 ∧ cap1 ≤ maxLen ∧ z1.length = cap1 ∧ (∀ i, i < z1.length → w.cell? (x.add i) = some (.int .u8 (z1.getD i 0))) ∧ ∀ n ∈ z1, (Lit.int .u8 n).wf = true) (y1 : len1 * 1 ≤ 140737488351232) :
  Calls Try.prog 5 #[.slice a0 len0 cap0, .slice a1 len1 cap1] w fun e w' => e = .returned (.bool true) ∧ Below w.heap.size w w' := by
 obtain ⟨l0, rfl, hr0, hm0, hw0, hc0⟩ := ReadsInt.ofRowC w0
 obtain ⟨l1, rfl, hr1, hm1, hw1, hc1⟩ := ReadsInt.ofRowC w1
 obtain ⟨k, h⟩ := P l0 l1 hm0 y0 hw0 hm1 y1 hw1
 refine (laws_FnTornLog.calls k _ _ l0 _ _ l1 true w (Kd.C_of_reads (d := (0 : Int)) (h1 := fun _ => rfl) hr0) hc0 (Kd.C_of_reads (d := (0 : Int)) (h1 := fun _ => rfl) hr1) hc1 h).mono ?_
 rintro e w' ⟨rfl, hd⟩
 exact ⟨rfl, hd⟩

end Go.Proofs.Ytejecjjimggjeaa.GFnTornLog
