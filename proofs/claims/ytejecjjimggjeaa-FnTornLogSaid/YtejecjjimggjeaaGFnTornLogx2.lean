/- Written by give.py, a program of this session, that runs the kit's print and lays contracts proved by hand beside it. -/
import Derived.Test.YtejecjjimggjeaaGFnTornLogx0
import Derived.Test.YtejecjjimggjeaaGFnTornLogx1
namespace Go.Proofs.Ytejecjjimggjeaa.GFnTornLog
open Go.RowKit Go.Proofs.YtejecjjimggjeaaW.PrintWords Go.Proofs.YtejecjjimggjeaaW.PrintLast Go.Proofs.YtejecjjimggjeaaW.PrintMore
attribute [local go_sem] max2_int min2_int max_two min_two max_three min_three max_four min_four
attribute [local go_sem high] Go.Proofs.YtejecjjimggjeaaH.str_leq Go.Proofs.YtejecjjimggjeaaH.str_geq Go.Proofs.YtejecjjimggjeaaH.str_gtr   -- for this text's walks alone
set_option linter.unusedVariables false
set_option linter.unusedSimpArgs false

/-- The length of the packed payload of the frame at the head. -/
def frHead (l : List Int) : Option Nat := if 2 ≤ l.length ∧ 128 ≤ rd l 0 ∧ 128 ≤ rd l 1 then (if 1 ≤ (rd l 0 - 128).toNat * 128 + (rd l 1 - 128).toNat ∧ 2 + ((rd l 0 - 128).toNat * 128 + (rd l 1 - 128).toNat) ≤ l.length then some ((rd l 0 - 128).toNat * 128 + (rd l 1 - 128).toNat) else none) else none
/-- The frame at the head: its payload, and its length. -/
def frOne (l : List Int) : Option (List Int × Nat) := match frHead l with
 | none => none
 | some m => if (unpackM ((l.take (2 + m)).drop 2)).length = 0 ∨ 2000 < (unpackM ((l.take (2 + m)).drop 2)).length then none else some (unpackM ((l.take (2 + m)).drop 2), 2 + m)
def frs : Nat → List Int → Nat → List (Nat × List Int)
 | 0, _, _ => []
 | n + 1, l, a => match frOne (l.drop a) with
  | none => []
  | some (p, s) => (a + s, p) :: frs n l (a + s)
def frAll (l : List Int) (a : Nat) : List (Nat × List Int) := frs (l.length + 1) l a
theorem frHead_some {l : List Int} {m : Nat} (h : frHead l = some m) : 1 ≤ m ∧ 2 + m ≤ l.length := by
 unfold frHead at h
 split at h
 ·split at h
  ·rename_i h2; injection h with h; subst h; exact h2
  ·cases h
 ·cases h
theorem frOne_some {l p : List Int} {s : Nat} (h : frOne l = some (p, s)) : 3 ≤ s ∧ s ≤ l.length ∧ 1 ≤ p.length ∧ p.length ≤ 2000 ∧ frHead l = some (s - 2) ∧ p = unpackM ((l.take s).drop 2) := by
 unfold frOne at h
 cases hm : frHead l with
 | none => rw [hm] at h; cases h
 | some m =>
  rw [hm] at h
  simp only at h
  have := frHead_some hm
  split at h
  ·cases h
  ·rename_i h2
   simp only [Option.some.injEq, Prod.mk.injEq] at h
   obtain ⟨rfl, rfl⟩ := h
   exact ⟨by omega, by omega, by omega, by omega, by rw [show 2 + m - 2 = m by omega], rfl⟩
theorem frs_fuel (l : List Int) : ∀ (n m a : Nat), l.length - a < n → l.length - a < m → frs n l a = frs m l a := by
 intro n
 induction n with
 | zero => intro m a h; omega
 | succ n ih =>
  intro m a h1 h2
  cases m with
  | zero => omega
  | succ m =>
   simp only [frs]
   cases he : frOne (l.drop a) with
   | none => rfl
   | some x =>
    obtain ⟨p, s⟩ := x
    have hs := frOne_some he
    rw [List.length_drop] at hs
    simp only
    rw [ih m (a + s) (by omega) (by omega)]
theorem frAll_none {l : List Int} {a : Nat} (h : frOne (l.drop a) = none) : frAll l a = [] := by unfold frAll; simp only [frs, h]
theorem frAll_some {l p : List Int} {a s : Nat} (h : frOne (l.drop a) = some (p, s)) : frAll l a = (a + s, p) :: frAll l (a + s) := by
 have hs := frOne_some h
 rw [List.length_drop] at hs
 have := frs_fuel l (l.length + 1) l.length (a + s) (by omega) (by omega)
 unfold frAll
 rw [this]
 simp only [frs, h]
theorem startIn_ {P : Program} {ops : Array Oper} {Q : Exit → Act → World → Prop} {S : World → Prop} {ds : List Nat} {id n nn : Nat} {a : Act} {w : World} (ro : Option Nat) (hQ : ¬ LetsOut Q) (hd : (ops.toList.all fun o => match o.op with | .defer _ => false | _ => true) = true) (l : Array Bool) (hm : P.follows .mixedOrders = true) (hn : ops.size = n) (hl : Array.replicate n false = l) (hS : S w.drew)
  (h : S w.drew → wpAnyLast P .any ops Q S ds n l a w.drew) : (Code.region id ops true).wpIn { Fence.wide with round := ro } nn P Q a w := by
 subst hn
 subst hl
 exact YtejecjjimggjeaaH.regionIn_of hQ ro (fun o ho c he => by have := List.all_eq_true.mp hd o ho; rw [he] at this; cases this) hm (wpAny_of_last _ _ _ _ (h hS))
theorem infoSz8f_ : ∃ i, Try.prog.info? 5 = some i ∧ i.size = 1 := by
 obtain ⟨i0, hi0, hz0⟩ := Option.map_eq_some_iff.1 (show (Try.prog.info? 5).map (·.size) = some 1 by kernel_rfl)
 exact ⟨i0, hi0, hz0⟩
theorem u8_ok {l : List Int} (h : okBytes l = true) (i : Nat) (hi : i < l.length) : 0 ≤ rd l (i : Int) ∧ rd l (i : Int) ≤ 255 := by
 have := List.all_eq_true.mp h l[i] (List.getElem_mem hi)
 rw [decide_eq_true_eq] at this
 simpa [rd, hi] using this
theorem and127 {b : Int} (h0 : 128 ≤ b) (h1 : b ≤ 255) : bits .and .u8 b 127 = b - 128 := by
 have := bits_mask .u8 8 (by decide) (fun n h1 h2 => by show n % 256 = n; omega) 7 (by decide) b (by omega) (by omega)
 rw [show ((2 : Int) ^ 7 - 1) = 127 by decide, show ((2 : Int) ^ 7) = 128 by decide] at this
 rw [this]
 omega
theorem drop_rd {l : List Int} {a i : Nat} (h : a + i < l.length) : rd (l.drop a) (i : Int) = rd l ((a + i : Nat) : Int) := by
 unfold rd
 rw [Int.toNat_natCast, Int.toNat_natCast, List.getD_eq_getElem?_getD, List.getD_eq_getElem?_getD, List.getElem?_drop]
theorem mid_drop {l : List Int} {a m : Nat} : (l.take (a + 2 + m)).drop (a + 2) = ((l.drop a).take (2 + m)).drop 2 := by
 rw [List.drop_take, List.drop_take, List.drop_drop, show a + 2 + m - (a + 2) = m by omega, show 2 + m - 2 = m by omega]
theorem fld_ (A : Option Addr) (n c : Nat) (w : World) : (Instr.field 50 (.agg #[.slice A n c]) 0).run Try.prog w = .ok (.slice A n c) w := by
 simp [Instr.field, run_underlying Try.underlying50, asAgg, part, go_sem]
attribute [local go_sem high] fld_
attribute [local go_sem] Oper.semAt_some
set_option maxHeartbeats 8000000 in
set_option maxRecDepth 100000 in
theorem frames_g (n : Nat) (w : World) (gb : Nat) (A : Option Addr) (c : Nat) (l : List Int) (hok : okBytes l = true) (hl : l.length ≤ 8192) (St : World → Prop)
  (hst : ∀ W, St W → W.heap[gb]? = some (.cells #[.slice A l.length c] 22 (0, 0)) ∧ (Kd.int .u8).C W A l.length l ∧ l.length ≤ c) (hsb : ∀ W W', St W → Below W.heap.size W W' → St W') (hkb : ∀ W', YtejecjjimggjeaaH.KeepB w.heap.size w W' → St W') :
  YtejecjjimggjeaaH.GivesP Try.prog n 62 #[] #[.pointer (some ⟨gb, 0, none⟩)] (fun x : Nat × List Int × Value => #[.int .i64 (x.1 : Int), x.2.2]) (fun W W' => St W → St W') (fun pre x W0 W => (frAll l 0)[pre.length]? = some (x.1, x.2.1) ∧ (Kd.int .u8).R 5 W W0.heap.size (fun _ => True) x.2.2 x.2.1) (fun xs => xs.map (fun x => (x.1, x.2.1)) = frAll l 0) (fun _ => True) w.heap.size w := by
 intro l_ J Jx W hW hWs hJ hJx hY h0
 have hS0 := hkb W hW
 have HST := Aside0.mk hst
 have HSB := Aside0.mk hsb
 have HOK := Aside0.mk hok
 have HL := Aside0.mk hl
 have HY := Aside0.mk hY
 clear hst hkb hsb hok hl hY
 have hu50 := Try.underlying50
 refine callsIn_of_wp Try.func62 rfl trivial ?_ rfl
 simp only [Try.ntmps62, List.size_toArray, List.length_cons, List.length_nil, Nat.reduceAdd, Nat.reduceSub, Array.replicate_succ, Array.replicate_zero, List.push_toArray, List.append_toArray, List.nil_append, List.cons_append]
 gi_wp2
 gi_loopw [3] (fun i wr => ∃ (a : Nat) (pre : List (Nat × List Int × Value)), i = .int .i64 (a : Int) ∧ a ≤ l.length ∧ Aside0 (pre.map (fun x => (x.1, x.2.1)) ++ frAll l a = frAll l 0) ∧ J pre wr ∧ St wr) (fun i _ => l.length - (intOf i).toNat)
 case atStart => exact ⟨0, [], rfl, by omega, ⟨rfl⟩, h0, hS0⟩
 case round =>
  obtain ⟨a, pre, rfl, ha, HF, hJs, hSt⟩ := hrel
  obtain ⟨bo, hr, hlc⟩ := HST.out wr hSt
  have hc1 : wr.cell? ⟨gb, 0, none⟩ = some (.slice A l.length c) := (blk_cell bo 0).trans rfl
  have HA := Aside0.mk ha
  have hlw := HL.out
  obtain ⟨a1, ha1⟩ : ∃ x_, x_ = a + 1 := ⟨_, rfl⟩
  obtain ⟨a2, ha2⟩ : ∃ x_, x_ = a + 2 := ⟨_, rfl⟩
  have hwa2 : wrap64 ((a : Int) + 2) = (a2 : Int) := by unfold wrap64; omega
  have hwa1 : wrap64 ((a : Int) + 1) = (a1 : Int) := by unfold wrap64; omega
  have HA1 := Aside0.mk ha1
  have HA2 := Aside0.mk ha2
  by_cases h2 : a2 ≤ l.length
  ·obtain ⟨ad, e1, hx0⟩ := Kd.at_int hr (a : Int) (by omega) (by omega)
   subst e1
   rw [Int.toNat_natCast] at hx0
   obtain ⟨ad', e1, hx1⟩ := Kd.at_int hr (a1 : Int) (by omega) (by omega)
   injection e1 with e1
   subst e1
   rw [Int.toNat_natCast] at hx1
   have hb0 := u8_ok HOK.out a (by omega)
   have hb1 := u8_ok HOK.out a1 (by omega)
   have hd0 : rd (l.drop a) 0 = rd l (a : Int) := drop_rd (i := 0) (by omega)
   have hd1 : rd (l.drop a) 1 = rd l (a1 : Int) := by rw [ha1]; exact drop_rd (i := 1) (by omega)
   obtain ⟨b0, hb0e⟩ : ∃ b_, b_ = rd l (a : Int) := ⟨_, rfl⟩
   obtain ⟨b1, hb1e⟩ : ∃ b_, b_ = rd l (a1 : Int) := ⟨_, rfl⟩
   rw [← hb0e] at hb0 hd0 hx0
   rw [← hb1e] at hb1 hd1 hx1
   have HB0 := Aside0.mk hb0
   have HB1 := Aside0.mk hb1
   have HD0 := Aside0.mk hd0
   have HD1 := Aside0.mk hd1
   have HR := Aside0.mk hr
   have HLC := Aside0.mk hlc
   have HBO := Aside0.mk bo
   clear hb0 hb1 hd0 hd1 hb0e hb1e hr hlc bo
   have hc2 : decide ((a : Int) + 2 ≤ (l.length : Int)) = true := decide_eq_true (by omega)
   have hx1' : wr.cell? { block := ad.block, off := ad.off + (a + 1) } = some (.int .u8 b1) := by rw [ha1] at hx1; rw [Addr.add, if_neg (by omega)] at hx1; exact hx1
   have hk1' : (0 : Int) ≤ (a : Int) + 1 := by omega
   have hlt1' : (a : Int) + 1 < (l.length : Int) := by omega
   have hk0 : (0 : Int) ≤ (a : Int) := by omega
   have hk1 : (0 : Int) ≤ (a1 : Int) := by omega
   have hlt0 : (a : Int) < (l.length : Int) := by omega
   have hlt1 : (a1 : Int) < (l.length : Int) := by omega
   subst ha1 ha2
   by_cases g0 : 128 ≤ b0
   ·have hg0 : decide (b0 ≥ 128) = true := decide_eq_true g0
    by_cases g1 : 128 ≤ b1
    ·have hg1 : decide (b1 ≥ 128) = true := decide_eq_true g1
     gi_wp2
     refine startIn_ none (by rintro ⟨_, _, h_⟩; obtain ⟨⟨_, h2_⟩, _⟩ := (id h_ : (∃ v, Ending.outgrown = Ending.returned v) ∧ _); cases h2_) (by kernel_rfl) (n := 19) (S := fun w' => w'.cell? ⟨gb, 0, none⟩ = some (.slice (some ad) l.length c) ∧ w'.cell? (ad.add a) = some (.int .u8 b0) ∧ w'.cell? { block := ad.block, off := ad.off + (a + 1) } = some (.int .u8 b1)) (ds := []) #[false, false, false, false, false, false, false, false, false, false, false, false, false, false, false, false, false, false, false] (by kernel_rfl) rfl rfl ⟨hc1, hx0, hx1'⟩ (fun hHeld => ?_)
     refine pure_ (i := 0) (N := some 26) (v := ?_) (a' := ?_) #[true, false, false, false, false, false, false, false, false, false, false, false, false, false, false, false, false, false, false] rfl rfl (by kernel_rfl) (fun _ _ _ h => h) (Or.inl ⟨by rfl, ?_⟩) ?_ ?_
     rotate_left
     ·intro w'
      go_simp
      with_reducible rfl
     rotate_left
     ·simp only [Act.put, List.setIfInBounds_toArray, List.set_cons_zero, List.set_cons_succ, i64_w, i32_w]
      rfl
     refine pure_ (i := 1) (N := some 27) (v := ?_) (a' := ?_) #[true, true, false, false, false, false, false, false, false, false, false, false, false, false, false, false, false, false, false] rfl rfl (by kernel_rfl) (fun _ _ _ h => h) (Or.inl ⟨by rfl, ?_⟩) ?_ ?_
     rotate_left
     ·intro w'
      go_simp
      with_reducible rfl
     rotate_left
     ·simp only [Act.put, List.setIfInBounds_toArray, List.set_cons_zero, List.set_cons_succ, i64_w, i32_w]
      rfl
     refine pure_ (i := 3) (N := some 29) (v := ?_) (a' := ?_) #[true, true, false, true, false, false, false, false, false, false, false, false, false, false, false, false, false, false, false] rfl rfl (by kernel_rfl) (fun _ _ _ h => h) (Or.inl ⟨by rfl, ?_⟩) ?_ ?_
     rotate_left
     ·intro w'
      go_simp
      with_reducible rfl
     rotate_left
     ·simp only [Act.put, List.setIfInBounds_toArray, List.set_cons_zero, List.set_cons_succ, i64_w, i32_w]
      rfl
     refine pure_ (i := 11) (N := some 37) (v := ?_) (a' := ?_) #[true, true, false, true, false, false, false, false, false, false, false, true, false, false, false, false, false, false, false] rfl rfl (by kernel_rfl) (fun _ _ _ h => h) (Or.inl ⟨by rfl, ?_⟩) ?_ ?_
     rotate_left
     ·intro w'
      go_simp
      with_reducible rfl
     rotate_left
     ·simp only [Act.put, List.setIfInBounds_toArray, List.set_cons_zero, List.set_cons_succ, i64_w, i32_w]
      rfl
     refine pure_ (i := 12) (N := some 38) (v := ?_) (a' := ?_) #[true, true, false, true, false, false, false, false, false, false, false, true, true, false, false, false, false, false, false] rfl rfl (by kernel_rfl) (fun _ _ _ h => h) (Or.inl ⟨by rfl, ?_⟩) ?_ ?_
     rotate_left
     ·intro w'
      go_simp
      with_reducible rfl
     rotate_left
     ·simp only [Act.put, List.setIfInBounds_toArray, List.set_cons_zero, List.set_cons_succ, i64_w, i32_w]
      rfl
     refine take_ (i := 2) (N := some 28) (v := ?_) (a' := ?_) #[true, true, true, true, false, false, false, false, false, false, false, true, true, false, false, false, false, false, false] rfl rfl (by kernel_rfl) (fun _ _ _ h => h) (Or.inl ⟨by rfl, ?_⟩) hHeld ?_ ?_
     rotate_left
     ·rintro w' ⟨s0, s1, s2⟩
      go_simp
      with_reducible rfl
     rotate_left
     ·simp only [Act.put, List.setIfInBounds_toArray, List.set_cons_zero, List.set_cons_succ, i64_w, i32_w]
      rfl
     refine pure_ (i := 4) (N := some 30) (v := ?_) (a' := ?_) #[true, true, true, true, true, false, false, false, false, false, false, true, true, false, false, false, false, false, false] rfl rfl (by kernel_rfl) (fun _ _ _ h => h) (Or.inl ⟨by rfl, ?_⟩) ?_ ?_
     rotate_left
     ·intro w'
      go_simp
      with_reducible rfl
     rotate_left
     ·simp only [Act.put, List.setIfInBounds_toArray, List.set_cons_zero, List.set_cons_succ, i64_w, i32_w]
      rfl
     refine take_ (i := 5) (N := some 31) (v := ?_) (a' := ?_) #[true, true, true, true, true, true, false, false, false, false, false, true, true, false, false, false, false, false, false] rfl rfl (by kernel_rfl) (fun _ _ _ h => h) (Or.inl ⟨by rfl, ?_⟩) hHeld ?_ ?_
     rotate_left
     ·rintro w' ⟨s0, s1, s2⟩
      go_simp
      with_reducible rfl
     rotate_left
     ·simp only [Act.put, List.setIfInBounds_toArray, List.set_cons_zero, List.set_cons_succ, i64_w, i32_w]
      rfl
     refine pure_ (i := 6) (N := some 32) (v := ?_) (a' := ?_) #[true, true, true, true, true, true, true, false, false, false, false, true, true, false, false, false, false, false, false] rfl rfl (by kernel_rfl) (fun _ _ _ h => h) (Or.inl ⟨by rfl, ?_⟩) ?_ ?_
     rotate_left
     ·intro w'
      go_simp
      with_reducible rfl
     rotate_left
     ·simp only [Act.put, List.setIfInBounds_toArray, List.set_cons_zero, List.set_cons_succ, i64_w, i32_w]
      rfl
     refine pure_ (i := 7) (N := some 33) (v := ?_) (a' := ?_) #[true, true, true, true, true, true, true, true, false, false, false, true, true, false, false, false, false, false, false] rfl rfl (by kernel_rfl) (fun _ _ _ h => h) (Or.inl ⟨by rfl, ?_⟩) ?_ ?_
     rotate_left
     ·intro w'
      go_simp
      with_reducible rfl
     rotate_left
     ·simp only [Act.put, List.setIfInBounds_toArray, List.set_cons_zero, List.set_cons_succ, i64_w, i32_w]
      rfl
     refine pure_ (i := 8) (N := some 34) (v := ?_) (a' := ?_) #[true, true, true, true, true, true, true, true, true, false, false, true, true, false, false, false, false, false, false] rfl rfl (by kernel_rfl) (fun _ _ _ h => h) (Or.inl ⟨by rfl, ?_⟩) ?_ ?_
     rotate_left
     ·intro w'
      go_simp
      with_reducible rfl
     rotate_left
     ·simp only [Act.put, List.setIfInBounds_toArray, List.set_cons_zero, List.set_cons_succ, i64_w, i32_w]
      rfl
     refine pure_ (i := 9) (N := some 35) (v := ?_) (a' := ?_) #[true, true, true, true, true, true, true, true, true, true, false, true, true, false, false, false, false, false, false] rfl rfl (by kernel_rfl) (fun _ _ _ h => h) (Or.inl ⟨by rfl, ?_⟩) ?_ ?_
     rotate_left
     ·intro w'
      go_simp
      with_reducible rfl
     rotate_left
     ·simp only [Act.put, List.setIfInBounds_toArray, List.set_cons_zero, List.set_cons_succ, i64_w, i32_w]
      rfl
     refine take_ (i := 10) (N := some 36) (v := ?_) (a' := ?_) #[true, true, true, true, true, true, true, true, true, true, true, true, true, false, false, false, false, false, false] rfl rfl (by kernel_rfl) (fun _ _ _ h => h) (Or.inl ⟨by rfl, ?_⟩) hHeld ?_ ?_
     rotate_left
     ·rintro w' ⟨s0, s1, s2⟩
      go_simp
      with_reducible rfl
     rotate_left
     ·simp only [Act.put, List.setIfInBounds_toArray, List.set_cons_zero, List.set_cons_succ, i64_w, i32_w]
      rfl
     refine pure_ (i := 13) (N := some 39) (v := ?_) (a' := ?_) #[true, true, true, true, true, true, true, true, true, true, true, true, true, true, false, false, false, false, false] rfl rfl (by kernel_rfl) (fun _ _ _ h => h) (Or.inl ⟨by rfl, ?_⟩) ?_ ?_
     rotate_left
     ·intro w'
      go_simp
      with_reducible rfl
     rotate_left
     ·simp only [Act.put, List.setIfInBounds_toArray, List.set_cons_zero, List.set_cons_succ, i64_w, i32_w]
      rfl
     refine take_ (i := 14) (N := some 40) (v := ?_) (a' := ?_) #[true, true, true, true, true, true, true, true, true, true, true, true, true, true, true, false, false, false, false] rfl rfl (by kernel_rfl) (fun _ _ _ h => h) (Or.inl ⟨by rfl, ?_⟩) hHeld ?_ ?_
     rotate_left
     ·rintro w' ⟨s0, s1, s2⟩
      go_simp
      with_reducible rfl
     rotate_left
     ·simp only [Act.put, List.setIfInBounds_toArray, List.set_cons_zero, List.set_cons_succ, i64_w, i32_w]
      rfl
     refine pure_ (i := 15) (N := some 41) (v := ?_) (a' := ?_) #[true, true, true, true, true, true, true, true, true, true, true, true, true, true, true, true, false, false, false] rfl rfl (by kernel_rfl) (fun _ _ _ h => h) (Or.inl ⟨by rfl, ?_⟩) ?_ ?_
     rotate_left
     ·intro w'
      go_simp
      with_reducible rfl
     rotate_left
     ·simp only [Act.put, List.setIfInBounds_toArray, List.set_cons_zero, List.set_cons_succ, i64_w, i32_w]
      rfl
     refine pure_ (i := 16) (N := some 42) (v := ?_) (a' := ?_) #[true, true, true, true, true, true, true, true, true, true, true, true, true, true, true, true, true, false, false] rfl rfl (by kernel_rfl) (fun _ _ _ h => h) (Or.inl ⟨by rfl, ?_⟩) ?_ ?_
     rotate_left
     ·intro w'
      go_simp
      with_reducible rfl
     rotate_left
     ·simp only [Act.put, List.setIfInBounds_toArray, List.set_cons_zero, List.set_cons_succ, i64_w, i32_w]
      rfl
     refine pure_ (i := 17) (N := some 43) (v := ?_) (a' := ?_) #[true, true, true, true, true, true, true, true, true, true, true, true, true, true, true, true, true, true, false] rfl rfl (by kernel_rfl) (fun _ _ _ h => h) (Or.inl ⟨by rfl, ?_⟩) ?_ ?_
     rotate_left
     ·intro w'
      go_simp
      with_reducible rfl
     rotate_left
     ·simp only [Act.put, List.setIfInBounds_toArray, List.set_cons_zero, List.set_cons_succ, i64_w, i32_w]
      rfl
     refine pure_ (i := 18) (N := some 4) (v := ?_) (a' := ?_) #[true, true, true, true, true, true, true, true, true, true, true, true, true, true, true, true, true, true, true] rfl rfl (by kernel_rfl) (fun _ _ _ h => h) (Or.inl ⟨by rfl, ?_⟩) ?_ ?_
     rotate_left
     ·intro w'
      go_simp
      with_reducible rfl
     rotate_left
     ·simp only [Act.put, List.setIfInBounds_toArray, List.set_cons_zero, List.set_cons_succ, i64_w, i32_w]
      rfl
     refine done_ (by kernel_rfl) ?_
     obtain ⟨hc1, hx0, hx1'⟩ := hHeld
     have hbd := below_drew (Below.refl wr.heap.size wr)
     have hJd := hJ _ _ _ hJs hbd
     have hSd := HSB.out _ _ hSt hbd
     have HRd := Aside0.mk (Kd.C_below HR.out hbd)
     clear hJs hSt HR HBO hbd
     generalize wr.drew = w7 at hc1 hx0 hx1' hJd hSd HRd ⊢
     have hb0 := HB0.out
     have hb1 := HB1.out
     obtain ⟨m, hm⟩ : ∃ m_, m_ = (b0 - 128).toNat * 128 + (b1 - 128).toNat := ⟨_, rfl⟩
     obtain ⟨e, he⟩ : ∃ e_, e_ = a + 2 + m := ⟨_, rfl⟩
     have hfh : frHead (l.drop a) = if 1 ≤ m ∧ 2 + m ≤ l.length - a then some m else none := by
      unfold frHead
      rw [HD0.out, HD1.out, List.length_drop, ← hm, if_pos ⟨Nat.le_sub_of_add_le (Nat.add_comm a 2 ▸ h2), g0, g1⟩]
     have hE : wrap64 (wrap64 ((a : Int) + 2 + wrap64 (wrap64 (bits BinOp.and IntKind.u8 b0 127) * 128)) + wrap64 (bits BinOp.and IntKind.u8 b1 127)) = (e : Int) := by
      rw [and127 g0 hb0.2, and127 g1 hb1.2]
      unfold wrap64
      omega
     rw [hE]
     clear hE hm hg0 hg1
     by_cases hm0 : m = 0
     ·have hq1 : ((e : Int) == (a : Int) + 2) = true := beq_iff_eq.mpr (by omega)
      gi_wp2
      refine bodyPost_ret (results_none rfl _ _ _) rfl ?_
      have hnone : frOne (l.drop a) = none := by unfold frOne; rw [hfh, if_neg (by omega)]
      have := HF.out
      rw [frAll_none hnone, List.append_nil] at this
      exact ⟨⟨_, rfl⟩, .inl ⟨_, this, hJd⟩⟩
     ·have hq1 : ((e : Int) == (a : Int) + 2) = false := beq_eq_false_iff_ne.mpr (by omega)
      by_cases hml : e > l.length
      ·have hq2 : (l.length < e) = True := eq_true (by omega)
       gi_wp2
       refine bodyPost_ret (results_none rfl _ _ _) rfl ?_
       have hnone : frOne (l.drop a) = none := by unfold frOne; rw [hfh, if_neg (by omega)]
       have := HF.out
       rw [frAll_none hnone, List.append_nil] at this
       exact ⟨⟨_, rfl⟩, .inl ⟨_, this, hJd⟩⟩
      ·have hq2 : (l.length < e) = False := eq_false (by omega)
       rw [if_pos (by omega)] at hfh
       obtain ⟨q, hq⟩ : ∃ q_, q_ = ((l.drop a).take (2 + m)).drop 2 := ⟨_, rfl⟩
       have hql : q.length = m := by rw [hq, List.length_drop, List.length_take, List.length_drop]; omega
       have hqm : (l.take e).drop (a + 2) = q := by rw [he, hq]; exact mid_drop
       have HCQ : Aside0 ((Kd.int .u8).C w7 (if c = a + 2 then some ad else (some ad).map (·.add ((a + 2) * 1))) q.length q) := ⟨by
        have := Kd.C_mid (lo := a + 2) (hi := e) HRd.out (by omega) (by omega) HLC.out
        rw [hqm] at this
        exact this⟩
       obtain ⟨i0, hi0, hz0⟩ := infoSz8f_
       have hcut := cut_mid (P := Try.prog) 22 5 .i64 .i64 Try.underlying22 hi0 1 hz0 (some ad) l.length c ((a : Int) + 2) (e : Int) (by omega) (by omega) (by omega) HLC.out
       rw [show ((a : Int) + 2).toNat = a + 2 by omega, Int.toNat_natCast, show e - (a + 2) = q.length by omega] at hcut
       obtain ⟨A2, hA2⟩ : ∃ A2_, A2_ = (if c = a + 2 then some ad else (some ad).map (·.add ((a + 2) * 1))) := ⟨_, rfl⟩
       rw [← hA2] at hcut HCQ
       have HUN : Aside0 (impl_Unpack.f q = some (unpackM q)) := ⟨by
        have hokq : okBytes q = true := by
         rw [hq]
         exact List.all_eq_true.mpr (fun x hx => List.all_eq_true.mp HOK.out x (List.mem_of_mem_drop (List.mem_of_mem_take (List.mem_of_mem_drop hx))))
        unfold impl_Unpack.f
        exact if_pos ⟨hokq, by omega⟩⟩
       have HCC : Aside0 (q.length ≤ c - (a + 2)) := ⟨by have := HLC.out; omega⟩
       obtain ⟨p, hp⟩ : ∃ p_, p_ = unpackM q := ⟨_, rfl⟩
       have hfo : frOne (l.drop a) = if p.length = 0 ∨ 2000 < p.length then none else some (p, 2 + m) := by
        unfold frOne; rw [hfh]; simp only; rw [← hq, ← hp]
       rw [← hp] at HUN
       have HFO := Aside0.mk hfo
       have HE := Aside0.mk he
       have HML := Aside0.mk hml
       clear hfh hfo hA2 hi0 hz0 hqm hql hq hp he hml
       by_cases hp0 : p.length = 0
       ·have hq3 : ((p.length : Int) == 0) = true := beq_iff_eq.mpr (by omega)
        gi_wp2
        refine ⟨trivial, fun h_ => by simp [Fence.wide] at h_, ?_⟩
        refine (callsIn_wide.2 (impl_Unpack.calls A2 (c - (a + 2)) q p w7 HCQ.out HCC.out HUN.out)).mono ?_
        rintro e_ w8 ⟨v0_, rfl, hr8, hb8⟩
        obtain ⟨Av, cv, ev⟩ := Kd.R_slice hr8
        subst ev
        have hJ8 := hJ _ _ _ hJd hb8
        clear hr8 hb8
        gi_wp2
        refine ⟨fun _ h_ => (by cases h_), ?_⟩
        gi_wp2
        refine bodyPost_ret (results_none rfl _ _ _) rfl ?_
        have hF := HF.out
        rw [frAll_none (HFO.out.trans (if_pos (by omega))), List.append_nil] at hF
        exact ⟨⟨_, rfl⟩, .inl ⟨_, hF, hJ8⟩⟩
       ·have hq3 : ((p.length : Int) == 0) = false := beq_eq_false_iff_ne.mpr (by omega)
        by_cases hp1 : p.length > 2000
        ·have hq4 : (2000 < p.length) = True := eq_true (by omega)
         gi_wp2
         refine ⟨trivial, fun h_ => by simp [Fence.wide] at h_, ?_⟩
         refine (callsIn_wide.2 (impl_Unpack.calls A2 (c - (a + 2)) q p w7 HCQ.out HCC.out HUN.out)).mono ?_
         rintro e_ w8 ⟨v0_, rfl, hr8, hb8⟩
         obtain ⟨Av, cv, ev⟩ := Kd.R_slice hr8
         subst ev
         have hJ8 := hJ _ _ _ hJd hb8
         clear hr8 hb8
         gi_wp2
         refine ⟨fun _ h_ => (by cases h_), ?_⟩
         gi_wp2
         refine bodyPost_ret (results_none rfl _ _ _) rfl ?_
         have hF := HF.out
         rw [frAll_none (HFO.out.trans (if_pos (by omega))), List.append_nil] at hF
         exact ⟨⟨_, rfl⟩, .inl ⟨_, hF, hJ8⟩⟩
        ·have hq4 : (2000 < p.length) = False := eq_false (by omega)
         gi_wp2
         refine ⟨trivial, fun h_ => by simp [Fence.wide] at h_, ?_⟩
         refine (callsIn_wide.2 (impl_Unpack.calls A2 (c - (a + 2)) q p w7 HCQ.out HCC.out HUN.out)).mono ?_
         rintro e_ w8 ⟨v0_, rfl, hr8, hb8⟩
         obtain ⟨Av, cv, ev⟩ := Kd.R_slice hr8
         subst ev
         have HR8 := Aside0.mk hr8
         have HB8 := Aside0.mk hb8
         have hyy := HY.out pre (e, p, .slice Av p.length cv) w7 w8 hJd hb8 ⟨by
          have hF := HF.out
          rw [frAll_some (HFO.out.trans (if_neg (by omega))), show a + (2 + m) = e by have := HE.out; omega] at hF
          rw [← hF, List.getElem?_append_right (by simp)]
          simp, hr8⟩
         obtain ⟨fn, tmps, assign, body, hy, hRY⟩ := hyy
         have HRY := Aside0.mk hRY
         dsimp only at hy
         clear hr8 hb8 hRY
         gi_wp2
         refine ⟨fun h_ => by simp [Fence.wide] at h_, HRY.out.mono ?_⟩
         rintro e_ w3 (⟨rfl, hJ3, hk3⟩ | ⟨rfl, hJx3⟩)
         ·gi_wp2
          go_roundw
          case rel =>
           refine ⟨e, pre ++ [(e, p, .slice Av p.length cv)], rfl, by have := HML.out; omega, ⟨?_⟩, hJ3, hk3 (HSB.out _ _ hSd HB8.out)⟩
           have hF := HF.out
           rw [frAll_some (HFO.out.trans (if_neg (by omega))), show a + (2 + m) = e by have := HE.out; omega] at hF
           rw [← hF]
           simp
          case measure => simp [intOf]; have := HE.out; omega
         ·gi_wp2
          refine bodyPost_ret (results_none rfl _ _ _) rfl ?_
          exact ⟨⟨_, rfl⟩, .inr ⟨_, trivial, hJx3⟩⟩
    ·have hg1 : decide (b1 ≥ 128) = false := decide_eq_false g1
     gi_wp2
     go_end0
     have hnone : frOne (l.drop a) = none := by
      have hf : frHead (l.drop a) = none := by
       unfold frHead
       exact if_neg (by rw [HD1.out]; omega)
      unfold frOne
      rw [hf]
     have hF := HF.out
     rw [frAll_none hnone, List.append_nil] at hF
     exact ⟨⟨_, rfl⟩, .inl ⟨_, hF, hJs⟩⟩
   ·have hg0 : decide (b0 ≥ 128) = false := decide_eq_false g0
    gi_wp2
    go_end0
    have hnone : frOne (l.drop a) = none := by
     have hf : frHead (l.drop a) = none := by
      unfold frHead
      exact if_neg (by rw [HD0.out]; omega)
     unfold frOne
     rw [hf]
    have hF := HF.out
    rw [frAll_none hnone, List.append_nil] at hF
    exact ⟨⟨_, rfl⟩, .inl ⟨_, hF, hJs⟩⟩
  ·have hc2 : decide ((a : Int) + 2 ≤ (l.length : Int)) = false := decide_eq_false (by omega)
   gi_wp2
   go_end0
   have hnone : frOne (l.drop a) = none := by
    have hf : frHead (l.drop a) = none := by
     unfold frHead
     exact if_neg (by rw [List.length_drop]; omega)
    unfold frOne
    rw [hf]
   have hF := HF.out
   rw [frAll_none hnone, List.append_nil] at hF
   exact ⟨⟨_, rfl⟩, .inl ⟨_, hF, hJs⟩⟩
set_option maxHeartbeats 4000000 in
set_option maxRecDepth 100000 in
theorem frames_c (A : Option Addr) (c : Nat) (l : List Int) (w : World) : Calls Try.prog 30 #[.slice A l.length c] w fun e w' => e = .returned (.func (.func 62) #[] #[.pointer (some ⟨w.heap.size, 0, none⟩)]) ∧ w' = w.alloc (.cells #[.slice A l.length c] 22) := by
 have hmf : ∀ (fn : Fn) (first cap : Array Value) (w : World), (Instr.makeFunc fn first cap).run Try.prog w = .ok (.func fn first cap) w := fun _ _ _ _ => rfl
 go_enter Try.func30, Try.ntmps30
 go_wp2
 go_ret
 exact ⟨rfl, rfl⟩
def frEnd (l : List (Nat × List Int)) : Nat := match l.getLast? with | none => 0 | some x => x.1
def impl_ScanFrames.f (l0 : List Int) : Option (List S50 × Int) := if okBytes l0 = true ∧ l0.length ≤ 1099511627776 then (if (l0.length : Int) > 8192 then some ([], 0) else some ((frAll l0 0).map (fun x => ⟨x.2⟩), (frEnd (frAll l0 0) : Int))) else none
structure ScI (w : World) (A0 : Option Addr) (c0 : Nat) (l0 : List Int) (pre : List (Nat × List Int × Value)) (W : World) : Prop where
 a2 : W.heap[w.heap.size]? = some (.cells #[.slice none 0 0, .int .i64 0] 25 (0, 0))
 ab : W.heap[w.heap.size + 2]? = some (.cells #[.slice A0 l0.length c0] 22 (0, 0))
 bel : Below w.heap.size w W
 row : ∃ v, W.heap[w.heap.size + 1]? = some (.cells #[v, .int .i64 (frEnd (pre.map (fun x => (x.1, x.2.1))) : Nat)] 25 (0, 0)) ∧ Kd.S k50 50 W w.heap.size (fun _ => True) v (pre.map (fun x => ⟨x.2.1⟩))
theorem S_cells {α : Type} {d : Kd α} {e base : Nat} {w w1 : World} {ok : Nat → Prop} {v : Value} {xs : List α} (h : Kd.S d e w base ok v xs) (hc : ∀ (k : Nat) (cs : Array Value) (t : TypeId) (fr : Nat × Nat), w.heap[k]? = some (Obj.cells cs t fr) → w1.heap[k]? = some (Obj.cells cs t fr)) : Kd.S d e w1 base (fun k => ok k ∧ k < w.heap.size) v xs :=
 Kd.S_mono (Kd.S_move (Kd.S_bound h) (fun k hk => by
  obtain ⟨_, _, _, q, _, cells, hcl⟩ := hk
  rw [hc _ _ _ _ hcl, hcl])) (fun k hk => ⟨hk.1, hk.2.2.1⟩)
theorem R_cells {α : Type} {d : Kd α} {e base : Nat} {w w1 : World} {ok : Nat → Prop} {v : Value} {xs : List α} (h : d.R e w base ok v xs) (hc : ∀ (k : Nat) (cs : Array Value) (t : TypeId) (fr : Nat × Nat), w.heap[k]? = some (Obj.cells cs t fr) → w1.heap[k]? = some (Obj.cells cs t fr)) : d.R e w1 base ok v xs :=
 Kd.R_mono (Kd.R_move (Kd.R_bound h) (fun k hk => by
  obtain ⟨_, _, _, q, _, cells, hcl⟩ := hk
  rw [hc _ _ _ _ hcl, hcl])) (fun k hk => hk.1)
theorem ScI.keep {w : World} {A0 : Option Addr} {c0 : Nat} {l0 : List Int} {pre : List (Nat × List Int × Value)} {W W' : World} {B : Nat} (h : ScI w A0 c0 l0 pre W) (hk : YtejecjjimggjeaaH.KeepB B W W') (hB : w.heap.size ≤ B) : ScI w A0 c0 l0 pre W' := by
 obtain ⟨v, h1, h2⟩ := h.row
 exact ⟨hk.cells _ _ _ _ h.a2, hk.cells _ _ _ _ h.ab, h.bel.trans (hk.below.mono hB), v, hk.cells _ _ _ _ h1, Kd.S_mono (S_cells h2 hk.cells) (fun _ _ => trivial)⟩
theorem frEnd_snoc (l : List (Nat × List Int)) (x : Nat × List Int) : frEnd (l ++ [x]) = x.1 := by unfold frEnd; rw [List.getLast?_concat]
theorem frs_len (l : List Int) : ∀ (n a : Nat), (frs n l a).length ≤ n := by
 intro n
 induction n with
 | zero => intro a; simp [frs]
 | succ n ih =>
  intro a
  simp only [frs]
  cases frOne (l.drop a) with
  | none => simp
  | some x => obtain ⟨p, s⟩ := x; simp only [List.length_cons]; have := ih (a + s); omega
theorem infoPl_ : (Try.prog.info? 50).map (fun i => (i.zero, i.size, i.bytes)) = some (some (.agg #[(.slice none 0 0)]), 1, 24) := by kernel_rfl
set_option maxHeartbeats 8000000 in
set_option maxRecDepth 100000 in
theorem impl_ScanFrames.calls (A0 : Option Addr) (c0 : Nat) (l0 : List Int) (r1 : List S50) (r2 : Int) (w : World) (hr0 : Kd.C (Kd.int .u8) w A0 l0.length l0) (hc0 : l0.length ≤ c0) (h : impl_ScanFrames.f l0 = some (r1, r2)) :
  Calls Try.prog 9 #[.slice A0 l0.length c0] w fun e w' => ∃ v0_ : Value, e = .returned (.agg #[v0_, .int .i64 r2]) ∧ Kd.S k50 50 w' w.heap.size (fun _ => True) v0_ r1 ∧ Below w.heap.size w w' := by
 have HR0 := Aside0.mk hr0
 have HC0 := Aside0.mk hc0
 unfold impl_ScanFrames.f at h
 clear hr0 hc0
 split at h
 ·rename_i hg
  have HOK := Aside0.mk hg.1
  clear hg
  refine (callsIn_wide (n := 5)).1 (callsIn_of_wp_marks Try.func9 rfl trivial ?_ rfl)
  simp only [Try.ntmps9, List.size_toArray, List.length_cons, List.length_nil, Nat.reduceAdd, Nat.reduceSub, Array.replicate_succ, Array.replicate_zero, List.push_toArray, List.append_toArray, List.nil_append, List.cons_append]
  by_cases hl8 : (l0.length : Int) > 8192
  ·rw [if_pos hl8] at h
   simp only [Option.some.injEq, Prod.mk.injEq] at h
   obtain ⟨rfl, rfl⟩ := h
   have hq : ((8192 : Int) < (l0.length : Int)) = True := eq_true hl8
   gi_wp2
   have hw0 := blk_new w (.cells #[.slice none 0 0, .int .i64 0] 25)
   have hb0 := zc (Below.refl w.heap.size w) (.cells #[.slice none 0 0, .int .i64 0] 25)
   have hw1 := blk_alloc hw0 (.cells #[.slice none 0 0, .int .i64 0] 25)
   exact ⟨_, results_cell_row rfl _ _ w.heap.size 25 _ (0, 0) _ rfl hw1 Try.underlying25 rfl (by kernel_rfl), _, rfl, Kd.S_nil _ _ _ _ _, zc hb0 _⟩
  ·rw [if_neg hl8] at h
   simp only [Option.some.injEq, Prod.mk.injEq] at h
   obtain ⟨rfl, rfl⟩ := h
   have HL8 : Aside0 (l0.length ≤ 8192) := ⟨by omega⟩
   have hq : ((8192 : Int) < (l0.length : Int)) = False := eq_false hl8
   gi_wp2
   refine ⟨trivial, ?_⟩
   refine (callsIn_wide.2 (frames_c A0 c0 l0 _)).mono ?_
   rintro e_ w1 ⟨rfl, rfl⟩
   gi_wp2
   obtain ⟨W, hW⟩ : ∃ W_, W_ = ((w.alloc (.cells #[.slice none 0 0, .int .i64 0] 25)).alloc (.cells #[.slice none 0 0, .int .i64 0] 25)).alloc (.cells #[.slice A0 l0.length c0] 22) := ⟨_, rfl⟩
   have hsz : W.heap.size = w.heap.size + 3 := by rw [hW]; simp
   have hI0 : ScI w A0 c0 l0 [] W := by
    rw [hW]
    refine ⟨blk_alloc (blk_alloc (blk_new w _) _) _, ?_, zc (zc (zc (Below.refl _ _) _) _) _, .slice none 0 0, ?_, Kd.S_nil _ _ _ _ _⟩
    ·have := blk_new ((w.alloc (.cells #[.slice none 0 0, .int .i64 0] 25)).alloc (.cells #[.slice none 0 0, .int .i64 0] 25)) (.cells #[.slice A0 l0.length c0] 22)
     rw [show ((w.alloc (.cells #[.slice none 0 0, .int .i64 0] 25)).alloc (.cells #[.slice none 0 0, .int .i64 0] 25)).heap.size = w.heap.size + 2 by simp] at this
     exact this
    ·have := blk_alloc (blk_new (w.alloc (.cells #[.slice none 0 0, .int .i64 0] 25)) (.cells #[.slice none 0 0, .int .i64 0] 25)) (.cells #[.slice A0 l0.length c0] 22)
     rw [show (w.alloc (.cells #[.slice none 0 0, .int .i64 0] 25)).heap.size = w.heap.size + 1 by simp] at this
     exact this
   rw [← hW]
   try rw [show ((w.alloc (.cells #[.slice none 0 0, .int .i64 0] 25)).alloc (.cells #[.slice none 0 0, .int .i64 0] 25)).heap.size = w.heap.size + 2 by simp]
   clear hW
   have hsb : ∀ W1 W2, (Below w.heap.size w W1 ∧ W1.heap[w.heap.size + 2]? = some (.cells #[.slice A0 l0.length c0] 22 (0, 0))) → Below W1.heap.size W1 W2 → (Below w.heap.size w W2 ∧ W2.heap[w.heap.size + 2]? = some (.cells #[.slice A0 l0.length c0] 22 (0, 0))) := fun W1 W2 h hb => ⟨zh h.1 hb, blk_below h.2 hb⟩
   have hkb : ∀ W1 W2, YtejecjjimggjeaaH.KeepB W.heap.size W1 W2 → (Below w.heap.size w W1 ∧ W1.heap[w.heap.size + 2]? = some (.cells #[.slice A0 l0.length c0] 22 (0, 0))) → (Below w.heap.size w W2 ∧ W2.heap[w.heap.size + 2]? = some (.cells #[.slice A0 l0.length c0] 22 (0, 0))) := fun W1 W2 hk h => ⟨h.1.trans (hk.below.mono (by omega)), hk.cells _ _ _ _ h.2⟩
   refine YtejecjjimggjeaaH.wp_rangeP (gf := 62) (bs := #[]) (lb := #[.pointer (some ⟨w.heap.size + 2, 0, none⟩)]) (encs := fun x : Nat × List Int × Value => #[.int .i64 (x.1 : Int), x.2.2]) rfl (enters_of Try.func62 (by kernel_rfl) rfl) (Nat.le_refl _)
    (frames_g 4 W (w.heap.size + 2) A0 c0 l0 HOK.out HL8.out (fun W1 => Below w.heap.size w W1 ∧ W1.heap[w.heap.size + 2]? = some (.cells #[.slice A0 l0.length c0] 22 (0, 0))) (fun W1 h => ⟨h.2, Kd.C_below HR0.out h.1, HC0.out⟩) hsb (fun W1 hk => hkb _ _ hk ⟨hI0.bel, hI0.ab⟩))
    (fun h k x => k (h x)) hkb (fun _ => rfl)
    (ScI w A0 c0 l0) (fun _ _ _ => False) (fun L W1 W2 h hk => h.keep hk (by omega)) (fun _ _ _ _ h _ => h) hI0
    (fun x a W' => a = { tmps := #[.slice A0 l0.length c0, undef, .pointer (some ⟨w.heap.size, 0, none⟩), .pointer (some ⟨w.heap.size + 1, 0, none⟩), .int .i64 (x.1 : Int), x.2.2, .slice A0 l0.length c0, .int .i64 l0.length, .bool false, undef, .slice A0 l0.length c0, .func (.func 62) #[] #[.pointer (some ⟨w.heap.size + 2, 0, none⟩)], .int .i64 (x.1 : Int), x.2.2, undef, undef, undef, undef, undef, undef, undef, undef, undef, undef], defers := [] })
    (fun x a W1 W2 h hk => h) ?assign ?body ?pre ?done (fun _ _ _ _ _ _ h _ => h.elim)
   case pre => exact fun pre x W0 W1 W2 h hk hs => ⟨h.1, R_cells h.2 hk.cells⟩
   case assign =>
    intro l_ L x Wp W' K hpre hsz' hK
    apply wpIn_seq_k
    intro K1 hK1
    refine YtejecjjimggjeaaH.regionIn_plain (id := 5) (by rintro ⟨_, _, h_⟩; exact h_) (some l_) (by rfl) ?_
    go_wp2
    refine YtejecjjimggjeaaH.regionIn_plain (id := 6) (by rintro ⟨_, _, h_⟩; exact h_) (some l_) (by rfl) ?_
    go_wp2
    refine hK _ _ (Below.refl _ _) ?_
    rfl
   case body =>
    rintro l_ L ⟨xe, xp, xv⟩ a₁ Wp wr rfl hWp hIp hkp hsz' hpre
    obtain ⟨v, hv3, hvS⟩ := hIp.row
    obtain ⟨hF, hRp⟩ := hpre
    have hS := S_cells hvS hkp.cells
    have hI := hIp.keep hkp (by omega)
    have hp3 := hkp.cells _ _ _ _ hv3
    simp only at hF hRp
    obtain ⟨xs, hxs⟩ : ∃ xs_, xs_ = L.map (fun x : Nat × List Int × Value => (⟨x.2.1⟩ : S50)) := ⟨_, rfl⟩
    have hxl : xs.length = L.length := by rw [hxs, List.length_map]
    rw [← hxs] at hS
    obtain ⟨A1, c1, e1⟩ := Kd.S_slice hS
    subst e1
    obtain ⟨Ap, cp, e2⟩ := Kd.R_slice hRp
    subst e2
    have hc0 : wr.cell? ⟨w.heap.size + 1, 0, none⟩ = some (.slice A1 xs.length c1) := (blk_cell hp3 0).trans rfl
    have HP := Aside0.mk (k50_mkM wr w.heap.size _ (⟨xp⟩ : S50) (Kd.R_lower (Kd.R_tight rfl hRp) (by omega : w.heap.size ≤ Wp.heap.size)))
    have HOKP : Aside0 (∀ k, some k = (Value.slice Ap xp.length cp).ownBlock → True ∧ some k ≠ (Value.slice A1 xs.length c1).ownBlock) := ⟨fun k hk => ⟨trivial, fun he => by have h1 := Kd.R_base hRp k hk.symm; have h2 := ((Kd.S_R hS).1 k he.symm).2; omega⟩⟩
    have HO := Aside0.mk (Kd.S_mono (ok' := fun k => True ∧ ¬ some k = (Value.slice Ap xp.length cp).ownBlock) hS (fun k hk => ⟨trivial, fun he => by have h1 := Kd.R_base hRp k he.symm; have h2 := hk.2; omega⟩))
    have hL8 : L.length < 8193 := by
     have h1 := (List.getElem?_eq_some_iff.1 hF).1
     have h2 := frs_len l0 (l0.length + 1) 0
     have h3 := HL8.out
     unfold frAll at h1
     omega
    have HXL : Aside0 ((xs.length + 1) * 24 ≤ 140737488355328) := ⟨by omega⟩
    have HI := Aside0.mk hI
    have HP3 := Aside0.mk hp3
    have HS := Aside0.mk hS
    have HZ : Aside0 (w.heap.size ≤ wr.heap.size) := ⟨hI.bel.size⟩
    have HKM := Aside0.mk hxs
    clear hv3 hvS hF hRp hS hI hp3 hIp hkp hWp hsz' hxs hxl hL8
    apply wpIn_block
    apply wpIn_seq_k
    intro K1 hK1
    refine YtejecjjimggjeaaH.regionIn_plain (id := 7) (by rintro ⟨_, _, h_⟩; exact h_) (some l_) (by rfl) ?_
    go_wp2_with (first | ((with_reducible refine zg (b := .append) (xs := #[.tmp 15, .tmp 18]) rfl ?_); at_builtin; refine Kd.S_append k50 (w0 := w) (W := wr) w.heap.size rfl (.tmp 15) (.tmp 18) 23 50 (.agg #[.slice none 0 0]) 24 rfl Try.underlying23 infoPl_ rfl (by decide) (by omega) (.slice A1 xs.length c1) xs (⟨xp⟩ : S50) [.slice Ap xp.length cp] (fun _ => True) (fun k_ => some k_ = (Value.slice Ap xp.length cp).ownBlock) rfl rfl HP.out HOKP.out (fun _ _ => trivial) HO.out HI.out.bel HZ.out HXL.out ?_; intro v1 w2 hS1 hB1 hg1 hat1; obtain ⟨A4, c4, e4_⟩ := Kd.S_slice hS1; subst e4_; have BK := Aside0.mk (blk_grown HP3.out hg1 (Kd.S_ne HS.out HP3.out (by decide))); have AB := Aside0.mk (blk_grown HI.out.ab hg1 (Kd.S_ne HS.out HI.out.ab (by decide))); have A2' := Aside0.mk (blk_grown HI.out.a2 hg1 (Kd.S_ne HS.out HI.out.a2 (by decide))); have HS1 := Aside0.mk hS1; have HB1 := Aside0.mk hB1; have HG1 := Aside0.mk hg1; have hc1 : w2.cell? ⟨w.heap.size + 1, 0, none⟩ = some (.slice A1 xs.length c1) := (blk_cell BK.out 0).trans rfl; have hf1 := blk_frozen BK.out 0; have hc2 := blk_cell BK.out 1; have hf2 := blk_frozen BK.out 1; clear hS1 hB1 hg1 hat1 hc0))
    have zi := Aside0.mk (blk_set BK.out 0 (.slice A4 (xs.length + 1) c4))
    have AB1 := Aside0.mk (blk_far AB.out (p := ⟨w.heap.size + 1, 0, none⟩) (by simp) (.slice A4 (xs.length + 1) c4))
    have A21 := Aside0.mk (blk_far A2'.out (p := ⟨w.heap.size + 1, 0, none⟩) (by simp) (.slice A4 (xs.length + 1) c4))
    have HS2 := Aside0.mk (Kd.S_set HS1.out BK.out (by decide) 0 (.slice A4 (xs.length + 1) c4))
    have HB2 := Aside0.mk (below_set (g := w.heap.size + 1) (j := 0) (v := .slice A4 (xs.length + 1) c4) HB1.out (by omega))
    have HK2 := Aside0.mk ((KeepsOthers.of_grownBy HG1.out (fun j_ o_ hj_ ho_ => by
     obtain ⟨cells_, hcl⟩ := Kd.S_typed HS.out j_ hj_
     rw [ho_] at hcl
     cases hcl
     rfl)).trans (KeepsOthers.setCell w2 ⟨w.heap.size + 1, 0, none⟩ (.slice A4 (xs.length + 1) c4)))
    clear hc1 hf1 hc2 hf2
    generalize w2.setCell ⟨w.heap.size + 1, 0, none⟩ (.slice A4 (xs.length + 1) c4) = w3 at zi AB1 A21 HS2 HB2 HK2 ⊢
    refine YtejecjjimggjeaaH.regionIn_plain (id := 8) (by rintro ⟨_, _, h_⟩; exact h_) (some l_) (by rfl) ?_
    have hc2 := blk_cell zi.out 1
    have hf2 := blk_frozen zi.out 1
    go_wp2
    have e1 : (L ++ [(xe, xp, Value.slice Ap xp.length cp)]).map (fun x : Nat × List Int × Value => (x.1, x.2.1)) = L.map (fun x => (x.1, x.2.1)) ++ [(xe, xp)] := by simp
    have e2 : (L ++ [(xe, xp, Value.slice Ap xp.length cp)]).map (fun x : Nat × List Int × Value => (⟨x.2.1⟩ : S50)) = xs ++ [⟨xp⟩] := by rw [HKM.out]; simp
    refine ⟨HK2.out.trans (KeepsOthers.setCell _ _ _), fun _ => ⟨below_set HB2.out (by omega), blk_far AB1.out (by simp) _⟩, ⟨blk_far A21.out (by simp) _, blk_far AB1.out (by simp) _, below_set HB2.out (by omega), .slice A4 (xs.length + 1) c4, ?_, ?_⟩⟩
    ·rw [e1, frEnd_snoc]
     exact blk_set zi.out 1 _
    ·rw [e2]
     have hS9 := Kd.S_set HS2.out zi.out (by decide) 1 (.int .i64 (xe : Int))
     rw [List.length_append, List.length_singleton] at hS9
     exact hS9
   case done =>
    rintro D xs wd hD hxs hI hdef
    obtain ⟨v, hv3, hvS⟩ := hI.row
    rw [hxs] at hv3
    have hmm : xs.map (fun x : Nat × List Int × Value => (⟨x.2.1⟩ : S50)) = (frAll l0 0).map (fun x => ⟨x.2⟩) := by rw [← hxs, List.map_map]; rfl
    rw [hmm] at hvS
    obtain ⟨A1, c1, e1⟩ := Kd.S_slice hvS
    subst e1
    have HDF := Aside0.mk hdef
    have HI := Aside0.mk hI
    have HV3 := Aside0.mk hv3
    have HVS := Aside0.mk hvS
    have HD := Aside0.mk (show w.heap.size + 3 ≤ D by omega)
    have hc0 := blk_cell hv3 0
    have hc1 := blk_cell hv3 1
    have hd0 := blk_cell hI.a2 0
    have hd1 := blk_cell hI.a2 1
    have he0 := blk_frozen hI.a2 0
    have he1 := blk_frozen hI.a2 1
    clear hv3 hvS hI hdef hxs hmm hD
    gi_wp2
    have hD := HD.out
    have hne : D ≠ w.heap.size := by omega
    obtain ⟨s0, hs0⟩ : ∃ s_, s_ = Value.slice A1 (frAll l0 0).length c1 := ⟨_, rfl⟩
    obtain ⟨s1, hs1⟩ : ∃ s_, s_ = Value.int .i64 (frEnd (frAll l0 0) : Int) := ⟨_, rfl⟩
    have hvs := HVS.out
    rw [List.length_map] at hvs
    rw [← hs0] at hvs ⊢
    rw [← hs1]
    have hd2 := (Below.heap_setCell (wd.setCell ⟨w.heap.size, 0, none⟩ s0) ⟨w.heap.size, 1, none⟩ s1 D hne).trans ((Below.heap_setCell wd ⟨w.heap.size, 0, none⟩ s0 D hne).trans HDF.out)
    have hA1 := blk_set HI.out.a2 0 s0
    have hA2 := blk_set hA1 1 s1
    have hS1 := Kd.S_set hvs HI.out.a2 (by decide) 0 s0
    have hS2 := Kd.S_set hS1 hA1 (by decide) 1 s1
    have hB1 := below_set (g := w.heap.size) (j := 0) (v := s0) HI.out.bel (Nat.le_refl _)
    have hB2 := below_set (g := w.heap.size) (j := 1) (v := s1) hB1 (Nat.le_refl _)
    generalize (wd.setCell ⟨w.heap.size, 0, none⟩ s0).setCell ⟨w.heap.size, 1, none⟩ s1 = w9 at hd2 hA2 hS2 hB2 ⊢
    clear hA1 hS1 hB1 hc0 hc1 hd0 hd1 he0 he1
    have kb := YtejecjjimggjeaaH.KeepB.put (B := w.heap.size) (.deferred none) hd2 rfl (by omega)
    show LeavesInM Fence.wide 5 Try.prog Try.f9 _ _ [{ target := .collected D, args := #[] }] .returning w9
    unfold LeavesInM
    refine ⟨(fun h_ => by cases h_), Or.inl ⟨D, _, rfl, run_takeDeferred hd2, ?_⟩⟩
    unfold LeavesInM
    refine ⟨_, results_cell_row rfl _ _ w.heap.size 25 _ (0, 0) _ rfl (kb.cells _ _ _ _ hA2) Try.underlying25 rfl (by kernel_rfl), ?_⟩
    subst hs0 hs1
    exact ⟨_, rfl, Kd.S_mono (S_cells hS2 kb.cells) (fun _ _ => trivial), hB2.trans kb.below⟩
 ·cases h

def laws_lwAt.f (l0 : List Int) (a1 : Int) (a2 : Int) : Option (Int) := if a2 ≤ 1 then (some 0) else (if (l0.length : Int) = 0 then (if a2 = 0 then (none) else (some (Int.tmod (wrap64 (a1 * 7)) a2))) else (if 0 ≤ (Int.tmod a1 (l0.length : Int)) then (if (Int.tmod a1 (l0.length : Int)) < (l0.length : Int) then (if a2 = 0 then (none) else (some (Int.tmod (wrap64 ((wrap64 (rd l0 (Int.tmod a1 (l0.length : Int)))) + (wrap64 (Int.tdiv a1 (l0.length : Int))))) a2))) else (none)) else (none)))
set_option maxHeartbeats 8000000 in
set_option maxRecDepth 100000 in
theorem laws_lwAt.calls (A0 : Option Addr) (c0 : Nat) (l0 : List Int) (a1 : Int) (a2 : Int) (r : Int) (w : World) (hr0 : Kd.C (Kd.int .u8) w A0 l0.length l0) (hc0 : l0.length ≤ c0) (h : laws_lwAt.f l0 a1 a2 = some r) :
  Calls Try.prog 23 #[.slice A0 l0.length c0, .int .i64 a1, .int .i64 a2] w fun e w' => e = .returned (.int .i64 r) ∧ Drawn0 w w' := by
 have HR0 := Aside0.mk hr0
 have HC0 := Aside0.mk hc0
 clear hr0 hc0
 have H : (if a2 ≤ 1 then (some 0) else (if (l0.length : Int) = 0 then (if a2 = 0 then (none) else (some (Int.tmod (wrap64 (a1 * 7)) a2))) else (if 0 ≤ (Int.tmod a1 (l0.length : Int)) then (if (Int.tmod a1 (l0.length : Int)) < (l0.length : Int) then (if a2 = 0 then (none) else (some (Int.tmod (wrap64 ((wrap64 (rd l0 (Int.tmod a1 (l0.length : Int)))) + (wrap64 (Int.tdiv a1 (l0.length : Int))))) a2))) else (none)) else (none)))) = some r := h
 clear h
 by_cases c4 : a2 ≤ 1
 ·rw [if_pos c4] at H
  have c4b0 : decide (a2 ≤ 1) = true := decide_eq_true c4
  clear c4
  obtain rfl := Option.some.inj H
  go_enter Try.func23, Try.ntmps23
  go_wp2
  repeat (go_quiet (fail); try go_wp2)
  go_ret
  exact ⟨by first | rfl | (simp; done) | (simp [*]; done), by repeat (first | exact Drawn0.refl _ | apply Drawn0.step)⟩
 ·rw [if_neg c4] at H
  have c4b0 : decide (a2 ≤ 1) = false := decide_eq_false c4
  clear c4
  by_cases c5 : (l0.length : Int) = 0
  ·rw [if_pos c5] at H
   have c5b0 : ((l0.length : Int) == 0) = true := beq_iff_eq.mpr c5
   have c5b1 : ((l0.length : Int) != 0) = false := bne_eq_false_iff_eq.mpr c5
   clear c5
   by_cases c6 : a2 = 0
   ·rw [if_pos c6] at H
    exact absurd H (by simp)
   ·rw [if_neg c6] at H
    have c6b0 : (a2 == 0) = false := beq_eq_false_iff_ne.mpr c6
    have c6b1 : (a2 != 0) = true := bne_iff_ne.mpr c6
    obtain rfl := Option.some.inj H
    go_enter Try.func23, Try.ntmps23
    go_wp2
    repeat (go_quiet (fail); try go_wp2)
    go_ret
    exact ⟨by first | rfl | (simp; done) | (simp [*]; done), by repeat (first | exact Drawn0.refl _ | apply Drawn0.step)⟩
  ·rw [if_neg c5] at H
   have c5b0 : ((l0.length : Int) == 0) = false := beq_eq_false_iff_ne.mpr c5
   have c5b1 : ((l0.length : Int) != 0) = true := bne_iff_ne.mpr c5
   have c5b2 : ¬ (l0 = []) := fun h_ => c5 (by rw [h_]; rfl)
   obtain ⟨ji7, hji7⟩ : ∃ j_ : Int, (Int.tmod a1 (l0.length : Int)) = j_ := ⟨_, rfl⟩
   replace H : (if 0 ≤ (ji7) then (if (ji7) < (l0.length : Int) then (if a2 = 0 then (none) else (some (Int.tmod (wrap64 ((wrap64 (rd l0 (ji7))) + (wrap64 (Int.tdiv a1 (l0.length : Int))))) a2))) else (none)) else (none)) = some r := by first | (rw [hji7] at H; exact H) | (simp only [hji7] at H ⊢; exact H)
   by_cases c8 : 0 ≤ (ji7)
   ·rw [if_pos c8] at H
    have c8b0 : decide (0 ≤ (ji7)) = true := decide_eq_true c8
    clear c8
    by_cases c9 : (ji7) < (l0.length : Int)
    ·rw [if_pos c9] at H
     have c9b0 : decide ((ji7) < (l0.length : Int)) = true := decide_eq_true c9
     clear c9
     by_cases c10 : a2 = 0
     ·rw [if_pos c10] at H
      exact absurd H (by simp)
     ·rw [if_neg c10] at H
      have c10b0 : (a2 == 0) = false := beq_eq_false_iff_ne.mpr c10
      have c10b1 : (a2 != 0) = true := bne_iff_ne.mpr c10
      obtain rfl := Option.some.inj H
      have p101 : 0 ≤ ((ji7) : Int) := of_decide_eq_true (by first | (with_reducible assumption) | assumption)
      have q101 : (ji7) < (l0.length : Int) := of_decide_eq_true (by first | (with_reducible assumption) | assumption)
      obtain ⟨ad101, e101, hx101_0⟩ := Kd.at_int HR0.out (ji7) p101 q101
      cases e101
      replace p101 := eq_true p101
      replace q101 := eq_true q101
      go_enter Try.func23, Try.ntmps23
      go_wp2
      repeat (go_quiet (fail); try go_wp2)
      go_ret
      exact ⟨by first | rfl | (simp; done) | (simp only [← hji7] <;> (first | rfl | simp)) | (simp [*]; done), by repeat (first | exact Drawn0.refl _ | apply Drawn0.step)⟩
    ·rw [if_neg c9] at H
     exact absurd H (by simp)
   ·rw [if_neg c8] at H
    exact absurd H (by simp)

def impl_Frame.f (l0 : List Int) : Option (List Int) := if (l0.length : Int) = 0 then (some ([] : List Int)) else (if (l0.length : Int) > 2000 then (some ([] : List Int)) else ((impl_Pack.f l0).bind fun t102 => ((some (([(wrap64 (128 + (wrap64 ((t102.length : Int) / 128)))) % 256, 128 + ((t102.length : Int) % 128)] : List Int) : List Int)).bind fun y105 => (if y105.length + t102.length < 140737488355328 then (some (y105 ++ t102)) else (none)))))
set_option maxHeartbeats 8000000 in
set_option maxRecDepth 100000 in
theorem impl_Frame.calls (A0 : Option Addr) (c0 : Nat) (l0 : List Int) (r : List Int) (w : World) (hr0 : Kd.C (Kd.int .u8) w A0 l0.length l0) (hc0 : l0.length ≤ c0) (h : impl_Frame.f l0 = some r) :
  Calls Try.prog 24 #[.slice A0 l0.length c0] w fun e w' => ∃ v0_ : Value, e = .returned (v0_) ∧ Kd.R (Kd.int .u8) 5 w' w.heap.size (fun _ => True) v0_ r ∧ Below w.heap.size w w' := by
 have HR0 := Aside0.mk hr0
 have HC0 := Aside0.mk hc0
 clear hr0 hc0
 have HB := Aside0.mk (Below.refl w.heap.size w)
 have H : (if (l0.length : Int) = 0 then (some ([] : List Int)) else (if (l0.length : Int) > 2000 then (some ([] : List Int)) else ((impl_Pack.f l0).bind fun t102 => ((some (([(wrap64 (128 + (wrap64 ((t102.length : Int) / 128)))) % 256, 128 + ((t102.length : Int) % 128)] : List Int) : List Int)).bind fun y105 => (if y105.length + t102.length < 140737488355328 then (some (y105 ++ t102)) else (none)))))) = some r := h
 clear h
 by_cases c2 : (l0.length : Int) = 0
 ·rw [if_pos c2] at H
  have c2b0 : ((l0.length : Int) == 0) = true := beq_iff_eq.mpr c2
  have c2b1 : ((l0.length : Int) != 0) = false := bne_eq_false_iff_eq.mpr c2
  clear c2
  obtain rfl := Option.some.inj H
  go_enter Try.func24, Try.ntmps24
  go_wp2
  go_ret
  exact ⟨_, by first | rfl | (simp [errW_none, errW_some] <;> rfl) | (simp [*, errW_none, errW_some] <;> rfl), by first | exact Kd.R_nil _ _ _ _ _ | exact Kd.N_nil _ _ _ _ _ | exact Kd.V_nil _ _ _ _ _ | exact Kd.Q_nil _ _ _ _ _ | exact Kd.S_nil _ _ _ _ _, by repeat (first | (with_reducible first | exact HB.out | apply zc | apply zb | apply zd) | exact HB.out)⟩
 ·rw [if_neg c2] at H
  have c2b0 : ((l0.length : Int) == 0) = false := beq_eq_false_iff_ne.mpr c2
  have c2b1 : ((l0.length : Int) != 0) = true := bne_iff_ne.mpr c2
  have c2b2 : ¬ (l0 = []) := fun h_ => c2 (by rw [h_]; rfl)
  by_cases c3 : (l0.length : Int) > 2000
  ·rw [if_pos c3] at H
   have c3b0 : decide (2000 < (l0.length : Int)) = true := decide_eq_true c3
   have c3b1 : decide (2000 < l0.length) = true := decide_eq_true (by omega)
   clear c3
   obtain rfl := Option.some.inj H
   go_enter Try.func24, Try.ntmps24
   go_wp2
   go_ret
   exact ⟨_, by first | rfl | (simp [errW_none, errW_some] <;> rfl) | (simp [*, errW_none, errW_some] <;> rfl), by first | exact Kd.R_nil _ _ _ _ _ | exact Kd.N_nil _ _ _ _ _ | exact Kd.V_nil _ _ _ _ _ | exact Kd.Q_nil _ _ _ _ _ | exact Kd.S_nil _ _ _ _ _, by repeat (first | (with_reducible first | exact HB.out | apply zc | apply zb | apply zd) | exact HB.out)⟩
  ·rw [if_neg c3] at H
   have c3b0 : decide (2000 < (l0.length : Int)) = false := decide_eq_false c3
   have c3b1 : decide (2000 < l0.length) = false := decide_eq_false (by omega)
   clear c3
   replace H := Option.bind_eq_some_iff.mp H
   obtain ⟨t102, A40, H⟩ := H
   replace H : ((some (([(wrap64 (128 + (wrap64 ((t102.length : Int) / 128)))) % 256, 128 + ((t102.length : Int) % 128)] : List Int) : List Int)).bind fun y105 => (if y105.length + t102.length < 140737488355328 then (some (y105 ++ t102)) else (none))) = some r := H
   have A4 := Aside0.mk A40
   clear A40
   obtain ⟨y105, hy105⟩ : ∃ y_ : List Int, y_ = (([(wrap64 (128 + (wrap64 ((t102.length : Int) / 128)))) % 256, 128 + ((t102.length : Int) % 128)] : List Int)) := ⟨_, rfl⟩
   replace H : (if y105.length + t102.length < 140737488355328 then (some (y105 ++ t102)) else (none)) = some r := by first | (rw [hy105]; with_reducible exact H) | (have H2_ := (Option.bind_some _ _).symm.trans H; rw [hy105]; with_reducible exact H2_) | (have H2_ := (Option.bind_some _ _).symm.trans H; with_reducible exact H2_) | with_reducible exact H | (rw [hy105]; exact H) | exact H
   have Ny105 := Aside0.mk hy105
   clear hy105
   by_cases c5 : y105.length + t102.length < 140737488355328
   ·rw [if_pos c5] at H
    have LMc5 := Aside0.mk c5
    clear c5
    obtain ⟨y108, hy108⟩ : ∃ y_ : List Int, y_ = (y105 ++ t102) := ⟨_, rfl⟩
    replace H : (some y108) = some r := by first | (rw [hy108]; with_reducible exact H) | (have H2_ := (Option.bind_some _ _).symm.trans H; rw [hy108]; with_reducible exact H2_) | (have H2_ := (Option.bind_some _ _).symm.trans H; with_reducible exact H2_) | with_reducible exact H | (rw [hy108]; exact H) | exact H
    have Ny108 := Aside0.mk hy108
    clear hy108
    obtain rfl := Option.some.inj H
    go_enter Try.func24, Try.ntmps24
    go_wp2_with (first | ((with_reducible refine gate_callee (f := 50) rfl ?_); refine goesL_ (some 13) rfl rfl Try.func50 (by kernel_rfl) rfl #[.slice A0 l0.length c0] rfl (by (try simp only [List.map_toArray, List.map_cons, List.map_nil]); first | done | rfl | (simp only [List.length_drop, List.length_take]; rfl)) ?_; (with_reducible refine (impl_Pack.calls _ _ l0 t102 _ ?side1 ?side2 A4.out).mono ?_); (case side1 => repeat (first | exact HR0.out | (with_reducible refine Kd.C_alloc ?_ _) | (with_reducible refine Kd.C_drewN ?_ _) | (with_reducible refine Kd.C_drew ?_))); (case side2 => exact HC0.out); rintro e w6 ⟨v103, rfl, zm, hb⟩; refine ⟨_, rfl, ?_⟩; have n0_ := Aside0.mk (Kd.R_lower zm (ze (by repeat (first | (with_reducible first | exact HB.out | apply zc | apply zb | apply zd) | exact HB.out)))); have n1_ := Aside0.mk (zh (by repeat (first | (with_reducible first | exact HB.out | apply zc | apply zb | apply zd) | exact HB.out)) hb); clear HB; have zi := n0_; have HB := n1_; clear n0_ n1_; (try clear hb); (try clear hb2); (try clear hk); (try clear hi); (try clear zm); obtain ⟨Ao7, co7, eo7⟩ := Kd.R_slice zi.out; subst eo7) | ((with_reducible refine gate_dst (N := 24) rfl ?_); (try (refine zf (by rfl) ?_; dsimp only)); refine Kd.R_lit (Kd.int .u8) _ 5 ?hg (N := 24) ?hd (xs := ([(wrap64 (128 + (wrap64 ((t102.length : Int) / 128)))) % 256, 128 + ((t102.length : Int) % 128)] : List Int)) (inner := [.int .u8 ((wrap64 (128 + (wrap64 ((t102.length : Int) / 128)))) % 256), .int .u8 (128 + ((t102.length : Int) % 128))]) (ok := fun _ => True) (okp := fun _ => True) ?hr ?hp (fun _ hk => hk) trivial (Below.refl _ _) (Nat.le_refl _) (by simp) ?_; (case hd => rfl); (case hg => rfl); (case hr => first | (go_simp; done) | (go_simp; rfl)); (case hp => exact (Reps.one (show Kd.M (Kd.int .u8) _ _ _ ((wrap64 (128 + (wrap64 ((t102.length : Int) / 128)))) % 256) [.int .u8 ((wrap64 (128 + (wrap64 ((t102.length : Int) / 128)))) % 256)] from rfl) (Reps.one (show Kd.M (Kd.int .u8) _ _ _ (128 + ((t102.length : Int) % 128)) [.int .u8 (128 + ((t102.length : Int) % 128))] from rfl) (Reps.none _ _)))); intro v106 w8 zj hb hg_ hnew_; clear hg_ hnew_; (first | rw [← Ny105.out] at zj | (simp only [Int.reduceToNat] at zj; rw [← Ny105.out] at zj)); have n0_ := Aside0.mk (Kd.R_elder' (by (with_reducible repeat (first | apply Kd.R_alloc | apply Kd.R_drewN | apply Kd.R_drew)); exact zi.out) (Kd.R_base zj) hb); have n1_ := Aside0.mk (Kd.R_lower (Kd.R_new' zj (Kd.R_lt (by (with_reducible repeat (first | apply Kd.R_alloc | apply Kd.R_drewN | apply Kd.R_drew)); exact zi.out))) (ze (by repeat (first | (with_reducible first | exact HB.out | apply zc | apply zb | apply zd) | exact HB.out)))); have n2_ := Aside0.mk (zh (by repeat (first | (with_reducible first | exact HB.out | apply zc | apply zb | apply zd) | exact HB.out)) hb); clear zi; clear HB; have zi := n0_; have zk := n1_; have HB := n2_; clear n0_ n1_ n2_; clear hb zj) | ((with_reducible refine zg (b := .append) (xs := #[.tmp 24, .tmp 25]) rfl ?_); (try (refine zf (by rfl) ?_; dsimp only)); at_builtin; refine Kd.R_append_rows (Kd.int .u8) (w0 := w) w.heap.size rfl (.tmp 24) (.tmp 25) 22 5 (.int .u8 0) 1 rfl Try.underlying22 info5 rfl (by decide) (by omega) v106 y105 t102 _ _ _ (fun k_ => some k_ ≠ (.slice Ao7 t102.length co7 : Value).ownBlock) (fun _ => False) rfl rfl ?aO ?aR (fun _ _ h => h) (fun _ h => h.elim) ?aF ?aB ?aS ?aL ?_; (case aR => repeat (first | exact (Kd.R_reads' zi.out).2.2 | (with_reducible refine Kd.C_alloc ?_ _) | (with_reducible refine Kd.C_drewN ?_ _) | (with_reducible refine Kd.C_drew ?_))); (case aB => exact (by repeat (first | (with_reducible first | exact HB.out | apply zc | apply zb | apply zd) | exact HB.out))); (case aF => exact (fun k_ hk => Kd.fresh' (Kd.R_lt (by (with_reducible repeat (first | apply Kd.R_alloc | apply Kd.R_drewN | apply Kd.R_drew)); exact zi.out)) k_ hk)); (case aO => exact (by (with_reducible repeat (first | apply Kd.R_alloc | apply Kd.R_drewN | apply Kd.R_drew)); exact Kd.R_mono zk.out (fun _ hk => hk.2))); (case aS => exact (ze (by repeat (first | (with_reducible first | exact HB.out | apply zc | apply zb | apply zd) | exact HB.out)))); (case aL => have := LMc5.out; omega); intro v109 w10 ho hb hg hat; rw [← Ny108.out] at ho; have n0_ := Aside0.mk (Kd.R_after (ok := (fun _ => True)) (by (with_reducible repeat (first | apply Kd.R_alloc | apply Kd.R_drewN | apply Kd.R_drew)); exact zi.out) hg hat); have n1_ := Aside0.mk (hb); have n2_ := Aside0.mk (ho); clear zi; clear HB; clear zk; have zi := n0_; have HB := n1_; have zl := n2_; clear n0_ n1_ n2_; clear ho hb hg hat))
    go_ret
    exact ⟨_, by first | rfl | (simp [errW_none, errW_some] <;> rfl) | (simp [*, errW_none, errW_some] <;> rfl), by (with_reducible repeat (first | apply Kd.R_alloc | apply Kd.R_drewN | apply Kd.R_drew)); exact Kd.R_mono zl.out (fun _ hk => trivial), by repeat (first | (with_reducible first | exact HB.out | apply zc | apply zb | apply zd) | exact HB.out)⟩
   ·rw [if_neg c5] at H
    exact absurd H (by simp)

end Go.Proofs.Ytejecjjimggjeaa.GFnTornLog
