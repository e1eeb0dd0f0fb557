/- Written by give.py, a program of this session, that runs the kit's print and lays contracts proved by hand beside it. -/
import Derived.Test.YtejecjjimggjeaaGFnExactScanFramesx0
import Derived.Test.YtejecjjimggjeaaGFnExactScanFramesx1
namespace Go.Proofs.Ytejecjjimggjeaa.GFnExactScanFrames
open Go.RowKit Go.Proofs.YtejecjjimggjeaaW.PrintWords Go.Proofs.YtejecjjimggjeaaW.PrintLast Go.Proofs.YtejecjjimggjeaaW.PrintMore
attribute [local go_sem] max2_int min2_int max_two min_two max_three min_three max_four min_four
attribute [local go_sem high] Go.Proofs.YtejecjjimggjeaaH.str_leq Go.Proofs.YtejecjjimggjeaaH.str_geq Go.Proofs.YtejecjjimggjeaaH.str_gtr   -- for this text's walks alone
set_option linter.unusedVariables false
set_option linter.unusedSimpArgs false

/-! ### spec_ScanFrames: function 7, by hand -/
/-! ### frames -/
/-- The length of the packed payload of the frame at the head. -/
def frHead (l : List Int) : Option Nat := if 2 ≤ l.length ∧ 128 ≤ rd l 0 ∧ 128 ≤ rd l 1 then (if 1 ≤ (rd l 0 - 128).toNat * 128 + (rd l 1 - 128).toNat ∧ 2 + ((rd l 0 - 128).toNat * 128 + (rd l 1 - 128).toNat) ≤ l.length then some ((rd l 0 - 128).toNat * 128 + (rd l 1 - 128).toNat) else none) else none
def spec_ScanFrames.f : Nat → List Int → Option (List S50 × Int)
  | 0, _ => none
  | k + 1, l => if l.all (fun x => decide (0 ≤ x ∧ x ≤ 255)) = true ∧ l.length ≤ 1099511627776 then (if (l.length : Int) > 8192 then some ([], 0) else match frHead l with
    | none => some ([], 0)
    | some m => (spec_Unpack.f k ((l.take (2 + m)).drop 2)).bind fun p => if p.length = 0 ∨ 2000 < p.length then some ([], 0) else (spec_ScanFrames.f k (l.drop (2 + m))).bind fun r => if r.1.length ≤ 100000000 then some (⟨p⟩ :: r.1, wrap64 (((2 + m : Nat) : Int) + r.2)) else none) else none
theorem spec_ScanFrames.mono : ∀ a0 k, LeO (spec_ScanFrames.f k a0) (spec_ScanFrames.f (k + 1) a0) := by
  intro a0 k
  induction k generalizing a0 with
  | zero => exact fun r h => by simp [spec_ScanFrames.f] at h
  | succ k ih =>
    simp only [spec_ScanFrames.f]
    refine LeO.ite (LeO.ite (LeO.refl _) ?_) (LeO.refl _)
    cases frHead a0 with
    | none => exact LeO.refl _
    | some m => exact LeO.bind (spec_Unpack.mono _ _) (fun _ => LeO.ite (LeO.refl _) (LeO.bind (ih _) (fun _ => LeO.refl _)))
open Classical in
theorem S_cons_tag {α : Type} {d : Kd α} {e base base2 g : Nat} {W : World} {p : α} {c : List Value} {okp ok2 : Nat → Prop} {u : Value} {ys : List α} (hc : W.heap[g]? = some (.cells c.toArray e (0, 0))) (hcl : c.length = d.sz) (hM : d.M W base okp p c) (hS : Kd.S d e W base2 ok2 u ys) (hb : base ≤ base2) (hbg : base ≤ g) (hap : ∀ k, okp k → ¬ ok2 k) (hgp : ¬ okp g) :
    ∃ F, (Kd.tag F d).R e W base (fun _ => True) (.slice (some ⟨g, 0, none⟩) 1 1) [(p, 0)] ∧ ∃ A n, u = .slice A ys.length n ∧ ReadsRow ((Kd.tag F d).M W base ok2) d.sz W A ys.length (ys.zipIdx 1) := by
  obtain ⟨f, hf⟩ := hS
  refine ⟨fun k => if okp k then 0 else f k + 1, ⟨fun _ _ => trivial, c, ⟨(show c.length = 1 * d.sz by omega), .inr ⟨g, 1, c.toArray, rfl, hbg, hc, Nat.le_refl _, by decide, (show c.toArray.size = 1 * d.sz by rw [List.size_toArray]; omega), (show c.toArray.toList.take (1 * d.sz) = c by rw [Nat.one_mul, List.take_of_length_le (by simp [hcl])])⟩⟩, ⟨(show c.length = 1 * d.sz by omega), fun j q hj => ?_⟩⟩, ?_⟩
  · cases j with
    | zero =>
      simp only [List.getElem?_cons_zero, Option.some.injEq] at hj
      subst hj
      rw [Nat.zero_mul, List.drop_zero, List.take_of_length_le (by show c.length ≤ d.sz; omega)]
      exact d.M_mono (fun k hk => ⟨⟨trivial, fun he => hgp (by have : k = g := (by simpa [Value.ownBlock] using he); rw [← this]; exact hk)⟩, if_pos hk⟩) hM
    | succ j => simp at hj
  · obtain ⟨A, n, he, hn, hr⟩ := OwnRow.reads hf.2
    rw [List.length_zipIdx] at he hr
    refine ⟨A, n, he, ?_⟩
    obtain ⟨r1, r2, r3⟩ := hr
    refine ⟨by simp, r2, fun h0 => ?_⟩
    obtain ⟨ad, ea, hj⟩ := r3 h0
    refine ⟨ad, ea, fun j q hq => ?_⟩
    rw [List.getElem?_zipIdx] at hq
    obtain ⟨y, hy, rfl⟩ := Option.map_eq_some_iff.1 hq
    obtain ⟨cs, h1, h2, h3⟩ := hj j (y, j) (by rw [List.getElem?_zipIdx, hy, Nat.zero_add]; rfl)
    exact ⟨cs, h1, d.M_lower hb (d.M_mono (fun k hk => ⟨hk.1.1, by
      show (if okp k then 0 else f k + 1) = 1 + j
      rw [if_neg (fun h => hap k h hk.1.1), hk.2]; omega⟩) h2), h3⟩
theorem u8_okS {l : List Int} (h : l.all (fun x => decide (0 ≤ x ∧ x ≤ 255)) = true) (i : Nat) (hi : i < l.length) : 0 ≤ rd l (i : Int) ∧ rd l (i : Int) ≤ 255 := by
  have := List.all_eq_true.mp h l[i] (List.getElem_mem hi)
  rw [decide_eq_true_eq] at this
  simpa [rd, hi] using this
theorem infoPls_ : (Try.prog.info? 50).map (fun i => (i.zero, i.size, i.bytes)) = some (some (.agg #[(.slice none 0 0)]), 1, 24) := by kernel_rfl
theorem infoSz8s_ : ∃ i, Try.prog.info? 5 = some i ∧ i.size = 1 := by
  obtain ⟨i0, hi0, hz0⟩ := Option.map_eq_some_iff.1 (show (Try.prog.info? 5).map (·.size) = some 1 by kernel_rfl)
  exact ⟨i0, hi0, hz0⟩
set_option maxHeartbeats 8000000 in
set_option maxRecDepth 100000 in
theorem spec_ScanFrames.calls (k : Nat) (A0 : Option Addr) (c0 : Nat) (l0 : List Int) (r1 : List S50) (r2 : Int) (w : World) (hr0 : Kd.C (Kd.int .u8) w A0 l0.length l0) (hc0 : l0.length ≤ c0) (h : spec_ScanFrames.f k l0 = some (r1, r2)) :
    Calls Try.prog 7 #[.slice A0 l0.length c0] w fun e w' => ∃ v0_ : Value, e = .returned (.agg #[v0_, .int .i64 r2]) ∧ Kd.S k50 50 w' w.heap.size (fun _ => True) v0_ r1 ∧ Below w.heap.size w w' := by
  induction k generalizing A0 c0 l0 r1 r2 w with
  | zero => simp [spec_ScanFrames.f] at h
  | succ k ih =>
    have HR0 := Aside0.mk hr0
    have HC0 := Aside0.mk hc0
    have hr := hr0
    have hz1 := blk_new w (.cells #[.slice none 0 0, .int .i64 0] 25)
    have hz2 := below_alloc (Below.refl w.heap.size w) (.cells #[.slice none 0 0, .int .i64 0] 25)
    have Z1 := Aside0.mk hz1
    have Z2 := Aside0.mk hz2
    simp only [spec_ScanFrames.f] at h
    clear hr0 hc0 hz1 hz2
    split at h
    · rename_i hg
      have HOK := Aside0.mk hg.1
      have hgl := hg.2
      clear hg
      by_cases hl8 : (l0.length : Int) > 8192
      · rw [if_pos hl8] at h
        simp only [Option.some.injEq, Prod.mk.injEq] at h
        obtain ⟨rfl, rfl⟩ := h
        have hq : ((8192 : Int) < (l0.length : Int)) = True := eq_true hl8
        go_enter Try.func7, Try.ntmps7
        go_wp2
        refine bodyPost_ret (results_cell_row rfl _ _ w.heap.size 25 _ (0, 0) _ rfl Z1.out Try.underlying25 rfl (by kernel_rfl)) rfl ?_
        exact ⟨_, rfl, Kd.S_nil _ _ _ _ _, Z2.out⟩
      · rw [if_neg hl8] at h
        have hq : ((8192 : Int) < (l0.length : Int)) = False := eq_false hl8
        by_cases h2 : 2 ≤ l0.length
        · obtain ⟨ad, e1, hx0⟩ := Kd.at_int hr 0 (by omega) (by omega)
          subst e1
          obtain ⟨ad', e1, hx1⟩ := Kd.at_int hr 1 (by omega) (by omega)
          injection e1 with e1
          subst e1
          rw [show (0 : Int).toNat = 0 from rfl, show ad.add 0 = ad from rfl] at hx0
          rw [show (1 : Int).toNat = 1 from rfl] at hx1
          have hb0 := u8_okS HOK.out 0 (by omega)
          have hb1 := u8_okS HOK.out 1 (by omega)
          rw [show ((0 : Nat) : Int) = 0 from rfl] at hb0
          rw [show ((1 : Nat) : Int) = 1 from rfl] at hb1
          have hfh : ∀ m, m = (rd l0 0 - 128).toNat * 128 + (rd l0 1 - 128).toNat → 128 ≤ rd l0 0 → 128 ≤ rd l0 1 → frHead l0 = if 1 ≤ m ∧ 2 + m ≤ l0.length then some m else none := fun m hm g0 g1 => by
            unfold frHead
            rw [← hm, if_pos ⟨h2, g0, g1⟩]
          have hfn : ¬ (128 ≤ rd l0 0 ∧ 128 ≤ rd l0 1) → frHead l0 = none := fun hn => by
            unfold frHead
            exact if_neg (fun hh => hn hh.2)
          obtain ⟨b0, hb0e⟩ : ∃ b_, b_ = rd l0 0 := ⟨_, rfl⟩
          obtain ⟨b1, hb1e⟩ : ∃ b_, b_ = rd l0 1 := ⟨_, rfl⟩
          rw [← hb0e] at hb0 hx0 hfh hfn
          rw [← hb1e] at hb1 hx1 hfh hfn
          have hx0a := (World.cell?_alloc_lt _ (.cells #[.slice none 0 0, .int .i64 0] 25) _ (World.block_lt_of_cell? _ _ hx0)).trans hx0
          have hx1a := (World.cell?_alloc_lt _ (.cells #[.slice none 0 0, .int .i64 0] 25) _ (World.block_lt_of_cell? _ _ hx1)).trans hx1
          have hx1b : (w.alloc (.cells #[.slice none 0 0, .int .i64 0] 25)).cell? { block := ad.block, off := ad.off + 1 } = some (.int .u8 b1) := hx1a
          have HB0 := Aside0.mk hb0
          have HB1 := Aside0.mk hb1
          have HFH := Aside0.mk hfh
          have HFN := Aside0.mk hfn
          clear hb0 hb1 hb0e hb1e hr hfh hfn hx0 hx1
          have hp2 : ((l0.length : Int) < 2) = False := eq_false (by omega)
          have hlt0 : (0 : Int) < (l0.length : Int) := by omega
          have hlt1 : (1 : Int) < (l0.length : Int) := by omega
          have hln0 : (0 < l0.length) = True := eq_true (by omega)
          have hln1 : (1 < l0.length) = True := eq_true (by omega)
          by_cases g0 : 128 ≤ b0
          · have hg0 : (b0 < 128) = False := eq_false (by omega)
            by_cases g1 : 128 ≤ b1
            · have hg1 : (b1 < 128) = False := eq_false (by omega)
              obtain ⟨wz, hwz⟩ : ∃ wz_, wz_ = w.alloc (.cells #[.slice none 0 0, .int .i64 0] 25) := ⟨_, rfl⟩
              go_enter Try.func7, Try.ntmps7
              go_wp2
              refine start_ (n := 13) (S := fun w' => w'.cell? ad = some (.int .u8 b0) ∧ w'.cell? { block := ad.block, off := ad.off + 1 } = some (.int .u8 b1)) (ds := []) #[false, false, false, false, false, false, false, false, false, false, false, false, false] (by kernel_rfl) rfl rfl ⟨hx0a, hx1b⟩ (fun hHeld => ?_)
              refine pure_ (i := 0) (N := some 27) (v := ?_) (a' := ?_) #[true, false, false, false, false, false, false, false, false, false, false, false, false] rfl rfl (by kernel_rfl) (fun _ _ _ h => h) (Or.inl ⟨by rfl, ?_⟩) ?_ ?_
              rotate_left
              · intro w'
                go_simp
                with_reducible rfl
              rotate_left
              · simp only [Act.put, List.setIfInBounds_toArray, List.set_cons_zero, List.set_cons_succ, i64_w, i32_w]
                rfl
              refine pure_ (i := 1) (N := some 28) (v := ?_) (a' := ?_) #[true, true, false, false, false, false, false, false, false, false, false, false, false] rfl rfl (by kernel_rfl) (fun _ _ _ h => h) (Or.inl ⟨by rfl, ?_⟩) ?_ ?_
              rotate_left
              · intro w'
                go_simp
                with_reducible rfl
              rotate_left
              · simp only [Act.put, List.setIfInBounds_toArray, List.set_cons_zero, List.set_cons_succ, i64_w, i32_w]
                rfl
              refine pure_ (i := 6) (N := some 33) (v := ?_) (a' := ?_) #[true, true, false, false, false, false, true, false, false, false, false, false, false] rfl rfl (by kernel_rfl) (fun _ _ _ h => h) (Or.inl ⟨by rfl, ?_⟩) ?_ ?_
              rotate_left
              · intro w'
                go_simp
                with_reducible rfl
              rotate_left
              · simp only [Act.put, List.setIfInBounds_toArray, List.set_cons_zero, List.set_cons_succ, i64_w, i32_w]
                rfl
              refine pure_ (i := 7) (N := some 34) (v := ?_) (a' := ?_) #[true, true, false, false, false, false, true, true, false, false, false, false, false] rfl rfl (by kernel_rfl) (fun _ _ _ h => h) (Or.inl ⟨by rfl, ?_⟩) ?_ ?_
              rotate_left
              · intro w'
                go_simp
                with_reducible rfl
              rotate_left
              · simp only [Act.put, List.setIfInBounds_toArray, List.set_cons_zero, List.set_cons_succ, i64_w, i32_w]
                rfl
              refine take_ (i := 2) (N := some 29) (v := ?_) (a' := ?_) #[true, true, true, false, false, false, true, true, false, false, false, false, false] rfl rfl (by kernel_rfl) (fun _ _ _ h => h) (Or.inl ⟨by rfl, ?_⟩) hHeld ?_ ?_
              rotate_left
              · rintro w' ⟨s0, s1⟩
                go_simp
                with_reducible rfl
              rotate_left
              · simp only [Act.put, List.setIfInBounds_toArray, List.set_cons_zero, List.set_cons_succ, i64_w, i32_w]
                rfl
              refine pure_ (i := 3) (N := some 30) (v := ?_) (a' := ?_) #[true, true, true, true, false, false, true, true, false, false, false, false, false] rfl rfl (by kernel_rfl) (fun _ _ _ h => h) (Or.inl ⟨by rfl, ?_⟩) ?_ ?_
              rotate_left
              · intro w'
                go_simp
                with_reducible rfl
              rotate_left
              · simp only [Act.put, List.setIfInBounds_toArray, List.set_cons_zero, List.set_cons_succ, i64_w, i32_w]
                rfl
              refine pure_ (i := 4) (N := some 31) (v := ?_) (a' := ?_) #[true, true, true, true, true, false, true, true, false, false, false, false, false] rfl rfl (by kernel_rfl) (fun _ _ _ h => h) (Or.inl ⟨by rfl, ?_⟩) ?_ ?_
              rotate_left
              · intro w'
                go_simp
                with_reducible rfl
              rotate_left
              · simp only [Act.put, List.setIfInBounds_toArray, List.set_cons_zero, List.set_cons_succ, i64_w, i32_w]
                rfl
              refine pure_ (i := 5) (N := some 32) (v := ?_) (a' := ?_) #[true, true, true, true, true, true, true, true, false, false, false, false, false] rfl rfl (by kernel_rfl) (fun _ _ _ h => h) (Or.inl ⟨by rfl, ?_⟩) ?_ ?_
              rotate_left
              · intro w'
                go_simp
                with_reducible rfl
              rotate_left
              · simp only [Act.put, List.setIfInBounds_toArray, List.set_cons_zero, List.set_cons_succ, i64_w, i32_w]
                rfl
              refine take_ (i := 8) (N := some 35) (v := ?_) (a' := ?_) #[true, true, true, true, true, true, true, true, true, false, false, false, false] rfl rfl (by kernel_rfl) (fun _ _ _ h => h) (Or.inl ⟨by rfl, ?_⟩) hHeld ?_ ?_
              rotate_left
              · rintro w' ⟨s0, s1⟩
                go_simp
                with_reducible rfl
              rotate_left
              · simp only [Act.put, List.setIfInBounds_toArray, List.set_cons_zero, List.set_cons_succ, i64_w, i32_w]
                rfl
              refine pure_ (i := 9) (N := some 36) (v := ?_) (a' := ?_) #[true, true, true, true, true, true, true, true, true, true, false, false, false] rfl rfl (by kernel_rfl) (fun _ _ _ h => h) (Or.inl ⟨by rfl, ?_⟩) ?_ ?_
              rotate_left
              · intro w'
                go_simp
                with_reducible rfl
              rotate_left
              · simp only [Act.put, List.setIfInBounds_toArray, List.set_cons_zero, List.set_cons_succ, i64_w, i32_w]
                rfl
              refine pure_ (i := 10) (N := some 37) (v := ?_) (a' := ?_) #[true, true, true, true, true, true, true, true, true, true, true, false, false] rfl rfl (by kernel_rfl) (fun _ _ _ h => h) (Or.inl ⟨by rfl, ?_⟩) ?_ ?_
              rotate_left
              · intro w'
                go_simp
                with_reducible rfl
              rotate_left
              · simp only [Act.put, List.setIfInBounds_toArray, List.set_cons_zero, List.set_cons_succ, i64_w, i32_w]
                rfl
              refine pure_ (i := 11) (N := some 38) (v := ?_) (a' := ?_) #[true, true, true, true, true, true, true, true, true, true, true, true, false] rfl rfl (by kernel_rfl) (fun _ _ _ h => h) (Or.inl ⟨by rfl, ?_⟩) ?_ ?_
              rotate_left
              · intro w'
                go_simp
                with_reducible rfl
              rotate_left
              · simp only [Act.put, List.setIfInBounds_toArray, List.set_cons_zero, List.set_cons_succ, i64_w, i32_w]
                rfl
              refine pure_ (i := 12) (N := some 3) (v := ?_) (a' := ?_) #[true, true, true, true, true, true, true, true, true, true, true, true, true] rfl rfl (by kernel_rfl) (fun _ _ _ h => h) (Or.inl ⟨by rfl, ?_⟩) ?_ ?_
              rotate_left
              · intro w'
                go_simp
                with_reducible rfl
              rotate_left
              · simp only [Act.put, List.setIfInBounds_toArray, List.set_cons_zero, List.set_cons_succ, i64_w, i32_w]
                rfl
              refine done_ (by kernel_rfl) ?_
              obtain ⟨hx0, hx1⟩ := hHeld
              have ZD1 := Aside0.mk (blk_drew Z1.out)
              have ZD2 := Aside0.mk (below_drew Z2.out)
              have HR7 := Aside0.mk (Kd.C_below HR0.out ZD2.out)
              clear Z1 Z2 hx0a hx1a hx1b hwz
              clear wz
              generalize (w.alloc (.cells #[.slice none 0 0, .int .i64 0] 25)).drew = w7 at ZD1 ZD2 HR7 hx0 hx1 ⊢
              have hcz0 := (blk_cell ZD1.out 0).trans rfl
              have hcz1 := (blk_cell ZD1.out 1).trans rfl
              have hfz0 := blk_frozen ZD1.out 0
              have hfz1 := blk_frozen ZD1.out 1
              have hb0 := HB0.out
              have hb1 := HB1.out
              obtain ⟨m, hm⟩ : ∃ m_, m_ = (b0 - 128).toNat * 128 + (b1 - 128).toNat := ⟨_, rfl⟩
              have hfh := HFH.out m hm g0 g1
              have hmb : m ≤ 20000 := by omega
              have hE : wrap64 (wrap64 (wrap64 (IntKind.u8.wrap (b0 - 128)) * 128) + wrap64 (IntKind.u8.wrap (b1 - 128))) = (m : Int) := by
                rw [show IntKind.u8.wrap (b0 - 128) = b0 - 128 by show (b0 - 128) % 256 = _; omega, show IntKind.u8.wrap (b1 - 128) = b1 - 128 by show (b1 - 128) % 256 = _; omega]
                unfold wrap64
                omega
              rw [hE]
              clear hE hm hg0 hg1 hb0 hb1 HFN HFH
              by_cases hm0 : m = 0
              · have hq1 : ((m : Int) < 1) = True := eq_true (by omega)
                rw [hfh, if_neg (by omega)] at h
                simp only [Option.some.injEq, Prod.mk.injEq] at h
                obtain ⟨rfl, rfl⟩ := h
                go_wp2
                refine bodyPost_ret (results_cell_row rfl _ _ w.heap.size 25 _ (0, 0) _ rfl (blk_set (blk_set ZD1.out 0 (.slice none 0 0)) 1 (.int .i64 0)) Try.underlying25 rfl (by kernel_rfl)) rfl ?_
                exact ⟨_, rfl, Kd.S_nil _ _ _ _ _, below_set (below_set ZD2.out (Nat.le_refl _)) (Nat.le_refl _)⟩
              · have hq1 : ((m : Int) < 1) = False := eq_false (by omega)
                by_cases hml : l0.length < 2 + m
                · have hq2 : ((l0.length : Int) < 2 + (m : Int)) = True := eq_true (by omega)
                  rw [hfh, if_neg (by omega)] at h
                  simp only [Option.some.injEq, Prod.mk.injEq] at h
                  obtain ⟨rfl, rfl⟩ := h
                  go_wp2
                  refine bodyPost_ret (results_cell_row rfl _ _ w.heap.size 25 _ (0, 0) _ rfl (blk_set (blk_set ZD1.out 0 (.slice none 0 0)) 1 (.int .i64 0)) Try.underlying25 rfl (by kernel_rfl)) rfl ?_
                  exact ⟨_, rfl, Kd.S_nil _ _ _ _ _, below_set (below_set ZD2.out (Nat.le_refl _)) (Nat.le_refl _)⟩
                · have hq2 : ((l0.length : Int) < 2 + (m : Int)) = False := eq_false (by omega)
                  rw [hfh, if_pos (by omega)] at h
                  simp only at h
                  obtain ⟨p, hp, h⟩ := Option.bind_eq_some_iff.mp h
                  have HUN := Aside0.mk hp
                  have HCQ := Kd.C_mid (lo := 2) (hi := 2 + m) HR7.out (by omega) (by omega) HC0.out
                  obtain ⟨i0, hi0, hz0⟩ := infoSz8s_
                  have hcut := cut_mid (P := Try.prog) 22 5 .i64 .i64 Try.underlying22 hi0 1 hz0 (some ad) l0.length c0 2 (2 + (m : Int)) (by omega) (by omega) (by omega) HC0.out
                  have hql : ((l0.take (2 + m)).drop 2).length = m := by rw [List.length_drop, List.length_take]; omega
                  obtain ⟨q, hq⟩ : ∃ q_, q_ = (l0.take (2 + m)).drop 2 := ⟨_, rfl⟩
                  rw [← hq] at HUN HCQ hql
                  rw [show (2 : Int).toNat = 2 from rfl, show (2 + (m : Int)).toNat - 2 = q.length by omega] at hcut
                  obtain ⟨A2, hA2⟩ : ∃ A2_, A2_ = (if c0 = 2 then some ad else (some ad).map (·.add (2 * 1))) := ⟨_, rfl⟩
                  rw [← hA2] at hcut
                  have HCQ2 : Aside0 ((Kd.int .u8).C w7 A2 q.length q) := ⟨by rw [hA2]; exact HCQ⟩
                  have HCC : Aside0 (q.length ≤ c0 - 2) := ⟨by have := HC0.out; omega⟩
                  have HCR := Aside0.mk (Kd.C_drop (m := 2 + m) HR7.out (by omega) HC0.out)
                  have hcut3 := cut_from (P := Try.prog) 22 5 .i64 Try.underlying22 hi0 1 hz0 (some ad) l0.length c0 (2 + (m : Int)) (by omega) (by omega)
                  rw [show (2 + (m : Int)).toNat = 2 + m by omega, ← List.length_drop] at hcut3
                  obtain ⟨A3, hA3⟩ : ∃ A3_, A3_ = (if c0 = 2 + m then some ad else (some ad).map (·.add ((2 + m) * 1))) := ⟨_, rfl⟩
                  rw [← hA3] at hcut3
                  have HCR3 : Aside0 ((Kd.int .u8).C w7 A3 (l0.drop (2 + m)).length (l0.drop (2 + m))) := ⟨by rw [hA3]; exact HCR.out⟩
                  have HCC3 : Aside0 ((l0.drop (2 + m)).length ≤ c0 - (2 + m)) := ⟨by rw [List.length_drop]; have := HC0.out; omega⟩
                  obtain ⟨q3, hq3⟩ : ∃ q_, q_ = l0.drop (2 + m) := ⟨_, rfl⟩
                  rw [← hq3] at hcut3 HCR3 HCC3 h
                  clear HCQ HCR hA2 hA3 hi0 hz0 hq hp hfh hql hq3
                  go_upto_region 9 with (first | ((with_reducible refine gate_callee (f := 29) rfl ?_); refine goesL_ (some 53) rfl rfl Try.func29 (by kernel_rfl) rfl #[.slice A2 q.length (c0 - 2)] rfl (by (try simp only [List.map_toArray, List.map_cons, List.map_nil]); first | done | rfl) ?_; refine (spec_Unpack.calls k A2 (c0 - 2) q p w7 HCQ2.out HCC.out HUN.out).mono ?_; rintro e w8 ⟨v0_, rfl, hr8, hb8⟩; obtain ⟨Ap, cp, e8⟩ := Kd.R_slice hr8; subst e8; refine ⟨_, rfl, ?_⟩; have HR8 := Aside0.mk hr8; have HB8 := Aside0.mk hb8; clear hr8 hb8 hx0 hx1))
                  have H4 := Aside0.mk (blk_new w8 (.cells #[.slice Ap p.length cp] 50))
                  have B9 := Aside0.mk (below_alloc (below_step ZD2.out HB8.out) (.cells #[.slice Ap p.length cp] 50))
                  have Z9 := Aside0.mk (blk_alloc (blk_below ZD1.out HB8.out) (.cells #[.slice Ap p.length cp] 50))
                  have HR9 := Aside0.mk (Kd.R_alloc HR8.out (.cells #[.slice Ap p.length cp] 50))
                  have HC9 := Aside0.mk (Kd.C_alloc (Kd.C_below HCR3.out HB8.out) (.cells #[.slice Ap p.length cp] 50))
                  have HG4 : Aside0 (w.heap.size < w7.heap.size ∧ w7.heap.size ≤ w8.heap.size ∧ (∀ k, (Value.slice Ap p.length cp).ownBlock = some k → k < w8.heap.size) ∧ w8.heap.size < (w8.alloc (.cells #[.slice Ap p.length cp] 50)).heap.size) := ⟨blk_lt ZD1.out, HB8.out.size, Kd.R_lt HR8.out, by simp⟩
                  clear HR8 HB8 HCQ2 HCR3 HUN hcz0 hcz1 hfz0 hfz1 hcut
                  generalize (w8.alloc (.cells #[.slice Ap p.length cp] 50)) = w9 at H4 B9 Z9 HR9 HC9 HG4 ⊢
                  generalize w8.heap.size = g4 at H4 HG4 ⊢
                  have hcp := (blk_cell H4.out 0).trans rfl
                  have hcz0 := (blk_cell Z9.out 0).trans rfl
                  have hcz1 := (blk_cell Z9.out 1).trans rfl
                  have hfz0 := blk_frozen Z9.out 0
                  have hfz1 := blk_frozen Z9.out 1
                  by_cases hp0 : p.length = 0
                  · have hq3 : ((p.length : Int) == 0) = true := beq_iff_eq.mpr (by omega)
                    rw [if_pos (Or.inl hp0)] at h
                    simp only [Option.some.injEq, Prod.mk.injEq] at h
                    obtain ⟨rfl, rfl⟩ := h
                    go_wp2
                    refine bodyPost_ret (results_cell_row rfl _ _ w.heap.size 25 _ (0, 0) _ rfl (blk_set (blk_set Z9.out 0 (.slice none 0 0)) 1 (.int .i64 0)) Try.underlying25 rfl (by kernel_rfl)) rfl ?_
                    exact ⟨_, rfl, Kd.S_nil _ _ _ _ _, below_set (below_set B9.out (Nat.le_refl _)) (Nat.le_refl _)⟩
                  · have hq3 : ((p.length : Int) == 0) = false := beq_eq_false_iff_ne.mpr (by omega)
                    by_cases hp1 : 2000 < p.length
                    · have hq4 : (2000 < p.length) = True := eq_true hp1
                      have hq5 : ((2000 : Int) < (p.length : Int)) = True := eq_true (by omega)
                      rw [if_pos (Or.inr hp1)] at h
                      simp only [Option.some.injEq, Prod.mk.injEq] at h
                      obtain ⟨rfl, rfl⟩ := h
                      go_wp2
                      refine bodyPost_ret (results_cell_row rfl _ _ w.heap.size 25 _ (0, 0) _ rfl (blk_set (blk_set Z9.out 0 (.slice none 0 0)) 1 (.int .i64 0)) Try.underlying25 rfl (by kernel_rfl)) rfl ?_
                      exact ⟨_, rfl, Kd.S_nil _ _ _ _ _, below_set (below_set B9.out (Nat.le_refl _)) (Nat.le_refl _)⟩
                    · have hq4 : (2000 < p.length) = False := eq_false hp1
                      have hq5 : ((2000 : Int) < (p.length : Int)) = False := eq_false (by omega)
                      rw [if_neg (by omega)] at h
                      obtain ⟨⟨rr1, rr2⟩, hrec, h⟩ := Option.bind_eq_some_iff.mp h
                      simp only at h
                      split at h
                      · rename_i hrl
                        simp only [Option.some.injEq, Prod.mk.injEq] at h
                        obtain ⟨rfl, h2_⟩ := h
                        have HRV : Aside0 (wrap64 (2 + (m : Int) + rr2) = r2) := ⟨by rw [← h2_]; congr 1⟩
                        have HREC := Aside0.mk hrec
                        clear h2_
                        have HRL := Aside0.mk hrl
                        clear hrec hrl
                        go_upto_region 12 with (fail)
                        obtain ⟨wl, hwl⟩ : ∃ wl_, wl_ = w9.alloc (.cells #[.slice Ap p.length cp] 50) := ⟨_, rfl⟩
                        have hlz : wl.heap.size = w9.heap.size + 1 := by rw [hwl]; simp
                        have hL := blk_new w9 (.cells #[.slice Ap p.length cp] 50)
                        have hB := below_alloc (Below.refl w9.heap.size w9) (.cells #[.slice Ap p.length cp] 50)
                        rw [← hwl] at hL hB ⊢
                        clear hwl
                        have h5 := blk_new wl (.cells #[.slice (some ⟨w9.heap.size, 0, none⟩) 1 1, .int .i64 (2 + (m : Int))] 25)
                        have hB2 := below_alloc hB (.cells #[.slice (some ⟨w9.heap.size, 0, none⟩) 1 1, .int .i64 (2 + (m : Int))] 25)
                        have hL2 := blk_alloc hL (.cells #[.slice (some ⟨w9.heap.size, 0, none⟩) 1 1, .int .i64 (2 + (m : Int))] 25)
                        have hs12 : (wl.alloc (.cells #[.slice (some ⟨w9.heap.size, 0, none⟩) 1 1, .int .i64 (2 + (m : Int))] 25)).heap.size = w9.heap.size + 2 := by simp [hlz]
                        rw [hlz] at h5
                        generalize wl.alloc (.cells #[.slice (some ⟨w9.heap.size, 0, none⟩) 1 1, .int .i64 (2 + (m : Int))] 25) = w12 at h5 hB2 hL2 hs12 ⊢
                        clear hL hB hlz hcp hcz0 hcz1 hfz0 hfz1
                        have HL := Aside0.mk hL2
                        have H5 := Aside0.mk h5
                        have Z12 := Aside0.mk (blk_below Z9.out hB2)
                        have B12 := Aside0.mk (below_step B9.out hB2)
                        have HR12 := Aside0.mk (Kd.R_below HR9.out hB2)
                        have HC12 := Aside0.mk (Kd.C_below HC9.out hB2)
                        have HS12 := Aside0.mk hs12
                        obtain ⟨gL, hgL⟩ : ∃ g_, g_ = w9.heap.size := ⟨_, rfl⟩
                        have HGL : Aside0 (g4 < gL ∧ w12.heap.size = gL + 2) := ⟨by have := HG4.out; omega⟩
                        rw [← hgL] at HL H5 ⊢
                        have HGP : Aside0 (∀ k, (Value.slice Ap p.length cp).ownBlock = some k → k < g4) := ⟨HG4.out.2.2.1⟩
                        have HGW : Aside0 (w.heap.size < w7.heap.size ∧ w7.heap.size ≤ g4) := ⟨HG4.out.1, HG4.out.2.1⟩
                        clear hgL h5 hB2 hL2 hs12 HR9 HC9 Z9 B9 H4 HG4 HS12
                        clear wl
                        go_upto_region 13 with (first | ((with_reducible refine gate_callee (f := 7) rfl ?_); refine goesL_ (some 74) rfl rfl Try.func7 (by kernel_rfl) rfl #[.slice A3 q3.length (c0 - (2 + m))] rfl (by (try simp only [List.map_toArray, List.map_cons, List.map_nil]); first | done | rfl) ?_; refine (ih A3 (c0 - (2 + m)) q3 rr1 rr2 w12 HC12.out HCC3.out HREC.out).mono ?_; rintro e w13 ⟨v6, rfl, hs6, hb6⟩; obtain ⟨A6, c6, e6⟩ := Kd.S_slice hs6; subst e6; refine ⟨_, rfl, ?_⟩; have HS6 := Aside0.mk hs6; have HB6 := Aside0.mk hb6; clear hs6 hb6))
                        have hZ := blk_alloc (blk_below Z12.out HB6.out) (.cells #[.slice A6 rr1.length c6, .int .i64 rr2] 25)
                        have hBB := below_alloc (below_step B12.out HB6.out) (.cells #[.slice A6 rr1.length c6, .int .i64 rr2] 25)
                        have hLL := blk_alloc (blk_below HL.out HB6.out) (.cells #[.slice A6 rr1.length c6, .int .i64 rr2] 25)
                        have h55 := blk_alloc (blk_below H5.out HB6.out) (.cells #[.slice A6 rr1.length c6, .int .i64 rr2] 25)
                        have h66 := blk_new w13 (.cells #[.slice A6 rr1.length c6, .int .i64 rr2] 25)
                        have hRR := Kd.R_alloc (Kd.R_below HR12.out HB6.out) (.cells #[.slice A6 rr1.length c6, .int .i64 rr2] 25)
                        have hSS := Kd.S_mono (ok' := fun k => w12.heap.size ≤ k) (Kd.S_bound (Kd.S_alloc HS6.out (.cells #[.slice A6 rr1.length c6, .int .i64 rr2] 25))) (fun k hk => hk.2.1)
                        have h13 : gL + 2 ≤ w13.heap.size := by have := HB6.out.size; have := HGL.out; omega
                        generalize (w13.alloc (.cells #[.slice A6 rr1.length c6, .int .i64 rr2] 25)) = w14 at hZ hBB hLL h55 h66 hRR hSS ⊢
                        generalize w13.heap.size = g6 at h66 h13 ⊢
                        have hgw := HGW.out
                        have hgl := HGL.out
                        have hgp := HGP.out
                        obtain ⟨FT, hF1, A6', n6', he6, hF2⟩ := S_cons_tag (d := k50) (base := w.heap.size) (base2 := w12.heap.size) (p := (⟨p⟩ : S50)) (c := [.slice Ap p.length cp]) (okp := fun k => some k = (Value.slice Ap p.length cp).ownBlock) hLL rfl (k50_mkM w14 w.heap.size _ (⟨p⟩ : S50) (Kd.R_lower (Kd.R_tight rfl hRR) (by omega))) hSS (by omega) (by omega) (fun k hk h2 => by have := hgp k hk.symm; omega) (fun hk => by have := hgp gL hk.symm; omega)
                        injection he6 with he6a he6b he6c
                        subst he6a he6c
                        have HF1 := Aside0.mk hF1
                        have HF2 := Aside0.mk hF2
                        have ZZ := Aside0.mk hZ
                        have BB := Aside0.mk hBB
                        have LL := Aside0.mk hLL
                        have H55 := Aside0.mk h55
                        have H66 := Aside0.mk h66
                        have HNE : Aside0 (some (gL + 1) ≠ (Value.slice (some ⟨gL, 0, none⟩) 1 1).ownBlock ∧ some g6 ≠ (Value.slice (some ⟨gL, 0, none⟩) 1 1).ownBlock ∧ some w.heap.size ≠ (Value.slice (some ⟨gL, 0, none⟩) 1 1).ownBlock) := ⟨by simp only [Value.ownBlock, ne_eq, Option.some.injEq]; omega⟩
                        have HOKP : Aside0 (∀ k, w12.heap.size ≤ k → True ∧ some k ≠ (Value.slice (some ⟨gL, 0, none⟩) 1 1).ownBlock) := ⟨fun k hk => ⟨trivial, by simp only [Value.ownBlock, ne_eq, Option.some.injEq]; omega⟩⟩
                        have HHL : Aside0 (([((⟨p⟩ : S50), 0)].length + rr1.length) * 24 ≤ 140737488355328) := ⟨by have := HRL.out; simp only [List.length_singleton]; omega⟩
                        have hc50 : w14.cell? ⟨gL + 1, 0, none⟩ = some (.slice (some ⟨gL, 0, none⟩) 1 1) := (blk_cell h55 0).trans rfl
                        have hc60 : w14.cell? ⟨g6, 0, none⟩ = some (.slice A6 rr1.length c6) := (blk_cell h66 0).trans rfl
                        have hwg5 : w.heap.size ≤ gL + 1 := by omega
                        have HNG : Aside0 (gL + 1 < g6 ∧ w.heap.size < gL + 1) := ⟨by omega⟩
                        clear hZ hBB hLL h55 h66 hRR hSS h13 hF1 hF2 hgw hgl hgp HL H5 Z12 B12 HR12 HC12 HS6 HB6 HGL HGP HGW hcut3 HCC3
                        go_upto_region 14 with (first | ((with_reducible refine gate_builtin (b := .append) (xs := #[.tmp 76, .tmp 78]) rfl ?_); at_builtin; refine Kd.R_append_rows (Kd.tag FT k50) (Rr := (Kd.tag FT k50).M w14 w.heap.size (fun k => w12.heap.size ≤ k)) (w0 := w) (W := w14) w.heap.size ?hgd (.tmp 76) (.tmp 78) 23 50 (.agg #[.slice none 0 0]) 24 ?ho Try.underlying23 infoPls_ rfl (Nat.zero_lt_one) (by omega) (.slice (some ⟨gL, 0, none⟩) 1 1) [((⟨p⟩ : S50), 0)] (rr1.zipIdx 1) A6 rr1.length c6 (fun _ => True) (fun k => w12.heap.size ≤ k) ?hs ?hx HF1.out HF2.out (fun _ _ h_ => h_) HOKP.out (fun _ _ => trivial) BB.out BB.out.size HHL.out ?_; (case hgd => rfl); (case ho => rfl); (case hs => rfl); (case hx => rfl); intro v1 w15 hR1 hB1 hg1 hat1; obtain ⟨A4, c4, e4_⟩ := Kd.R_slice hR1; subst e4_; have HR1 := Aside0.mk hR1; have B15 := Aside0.mk hB1; have H515 := Aside0.mk (blk_grown H55.out hg1 HNE.out.1); have H615 := Aside0.mk (blk_grown H66.out hg1 HNE.out.2.1); have Z15 := Aside0.mk (blk_grown ZZ.out hg1 HNE.out.2.2); have hc51 : w15.cell? ⟨gL + 1, 0, none⟩ = some (.slice (some ⟨gL, 0, none⟩) 1 1) := (blk_cell H515.out 0).trans rfl; have hf51 := blk_frozen H515.out 0; clear hR1 hB1 hg1 hat1 hc50 hc60))
                        have hz15 : (rr1.length + 1) = ([((⟨p⟩ : S50), 0)] ++ rr1.zipIdx 1).length := by simp
                        have HS15 : Aside0 (Kd.S k50 50 w15 w.heap.size (fun _ => True) (.slice A4 (rr1.length + 1) c4) (⟨p⟩ :: rr1)) := ⟨⟨FT, by rw [hz15]; exact HR1.out⟩⟩
                        obtain ⟨s4, hs4⟩ : ∃ s_, s_ = Value.slice A4 (rr1.length + 1) c4 := ⟨_, rfl⟩
                        rw [← hs4] at HS15 ⊢
                        have H5a := Aside0.mk (blk_set H515.out 0 s4)
                        have H6a := Aside0.mk (blk_far H615.out (p := ⟨gL + 1, 0, none⟩) (by have := HNG.out; show g6 ≠ gL + 1; omega) s4)
                        have Za := Aside0.mk (blk_far Z15.out (p := ⟨gL + 1, 0, none⟩) (by have := HNG.out; show w.heap.size ≠ gL + 1; omega) s4)
                        have Ba := Aside0.mk (below_set (g := gL + 1) (j := 0) (v := s4) B15.out hwg5)
                        have Sa := Aside0.mk (Kd.S_set HS15.out H515.out (by decide) 0 s4)
                        generalize w15.setCell ⟨gL + 1, 0, none⟩ s4 = w16 at H5a H6a Za Ba Sa ⊢
                        clear hc51 hf51 hz15
                        have hc1 : w16.cell? ⟨gL + 1, 1, none⟩ = some (.int .i64 (2 + (m : Int))) := (blk_cell H5a.out 1).trans rfl
                        have hc2 : w16.cell? ⟨g6, 1, none⟩ = some (.int .i64 rr2) := (blk_cell H6a.out 1).trans rfl
                        have hf1 := blk_frozen H5a.out 1
                        go_upto_region 15 with (fail)
                        clear hc1 hc2 hf1
                        rw [HRV.out]
                        have H5b := Aside0.mk (blk_set H5a.out 1 (.int .i64 r2))
                        have Zb := Aside0.mk (blk_far Za.out (p := ⟨gL + 1, 1, none⟩) (by have := HNG.out; show w.heap.size ≠ gL + 1; omega) (.int .i64 r2))
                        have Bb := Aside0.mk (below_set (g := gL + 1) (j := 1) (v := .int .i64 r2) Ba.out hwg5)
                        have Sb := Aside0.mk (Kd.S_set Sa.out H5a.out (by decide) 1 (.int .i64 r2))
                        generalize w16.setCell ⟨gL + 1, 1, none⟩ (.int .i64 r2) = w17 at H5b Zb Bb Sb ⊢
                        have hc1 : w17.cell? ⟨gL + 1, 0, none⟩ = some s4 := (blk_cell H5b.out 0).trans rfl
                        have hc2 : w17.cell? ⟨gL + 1, 1, none⟩ = some (.int .i64 r2) := (blk_cell H5b.out 1).trans rfl
                        have hc3 : w17.cell? ⟨w.heap.size, 0, none⟩ = some (.slice none 0 0) := (blk_cell Zb.out 0).trans rfl
                        have hc4 : w17.cell? ⟨w.heap.size, 1, none⟩ = some (.int .i64 0) := (blk_cell Zb.out 1).trans rfl
                        have hf3 := blk_frozen Zb.out 0
                        have hf4 := blk_frozen Zb.out 1
                        have hs4' := hs4
                        subst hs4
                        go_wp2
                        refine bodyPost_ret (results_cell_row rfl _ _ w.heap.size 25 _ (0, 0) _ rfl (blk_set (blk_set Zb.out 0 _) 1 _) Try.underlying25 rfl (by kernel_rfl)) rfl ?_
                        exact ⟨_, rfl, Kd.S_set (Kd.S_set Sb.out Zb.out (by decide) 0 _) (blk_set Zb.out 0 _) (by decide) 1 _, below_set (below_set Bb.out (Nat.le_refl _)) (Nat.le_refl _)⟩
                      · cases h
            · have hg1 : (b1 < 128) = True := eq_true (by omega)
              rw [HFN.out (by omega)] at h
              simp only [Option.some.injEq, Prod.mk.injEq] at h
              obtain ⟨rfl, rfl⟩ := h
              go_enter Try.func7, Try.ntmps7
              go_wp2
              refine bodyPost_ret (results_cell_row rfl _ _ w.heap.size 25 _ (0, 0) _ rfl Z1.out Try.underlying25 rfl (by kernel_rfl)) rfl ?_
              exact ⟨_, rfl, Kd.S_nil _ _ _ _ _, Z2.out⟩
          · have hg0 : (b0 < 128) = True := eq_true (by omega)
            rw [HFN.out (by omega)] at h
            simp only [Option.some.injEq, Prod.mk.injEq] at h
            obtain ⟨rfl, rfl⟩ := h
            go_enter Try.func7, Try.ntmps7
            go_wp2
            refine bodyPost_ret (results_cell_row rfl _ _ w.heap.size 25 _ (0, 0) _ rfl Z1.out Try.underlying25 rfl (by kernel_rfl)) rfl ?_
            exact ⟨_, rfl, Kd.S_nil _ _ _ _ _, Z2.out⟩
        · have hp2 : ((l0.length : Int) < 2) = True := eq_true (by omega)
          have hfn : frHead l0 = none := by unfold frHead; exact if_neg (fun hh => h2 hh.1)
          rw [hfn] at h
          simp only [Option.some.injEq, Prod.mk.injEq] at h
          obtain ⟨rfl, rfl⟩ := h
          go_enter Try.func7, Try.ntmps7
          go_wp2
          refine bodyPost_ret (results_cell_row rfl _ _ w.heap.size 25 _ (0, 0) _ rfl Z1.out Try.underlying25 rfl (by kernel_rfl)) rfl ?_
          exact ⟨_, rfl, Kd.S_nil _ _ _ _ _, Z2.out⟩
    · cases h

/-! ### laws_toByteS: function 8 -/
def laws_toByteS.l0 : Nat → List Int → List Int → Int → Option (List Int)
  | 0, _, _, _ => none
  | k + 1, x0, x3, x4 => if x4 < (x0.length : Int) then (if 0 ≤ x4 then (if x4 < (x3.length : Int) then (laws_toByteS.l0 k x0 (x3.set (x4 : Int).toNat (rd x0 x4)) (wrap64 (x4 + 1))) else (none)) else (none)) else (some x3)
def laws_toByteS.f (k : Nat) (l0 : List Int) : Option (List Int) := if 0 ≤ (l0.length : Int) then (if ((l0.length : Int) : Int).toNat ≤ 281474976710656 then (laws_toByteS.l0 k l0 (List.replicate ((l0.length : Int) : Int).toNat 0) 0) else (none)) else (none)
theorem laws_toByteS.mono_l : ∀ k, (∀ y0 y1 y2, LeO (laws_toByteS.l0 k y0 y1 y2) (laws_toByteS.l0 (k + 1) y0 y1 y2))
  | 0 => fun _ _ _ r h => by simp [laws_toByteS.l0] at h
  | k + 1 => by
    have ih0 := laws_toByteS.mono_l k
    · intro y0 y1 y2
      unfold laws_toByteS.l0
      repeat' first
      | (with_reducible exact ih0 _ _ _)
      | (with_reducible exact LeO.refl _)
      | (with_reducible exact LeO.none _)
      | (with_reducible refine LeO.ite ?_ ?_)
      | (with_reducible refine LeO.bind ?_ (fun _ => ?_))
      | exact ih0 _ _ _
      | exact LeO.none _
      | refine LeO.ite ?_ ?_
      | refine LeO.bind ?_ (fun _ => ?_)
theorem laws_toByteS.mono : ∀ a0 k, LeO (laws_toByteS.f k a0) (laws_toByteS.f (k + 1) a0) := by
  intro a0 k
  have ih0 := laws_toByteS.mono_l k
  unfold laws_toByteS.f
  repeat' first
      | (with_reducible exact ih0 _ _ _)
      | (with_reducible exact LeO.refl _)
      | (with_reducible exact LeO.none _)
      | (with_reducible refine LeO.ite ?_ ?_)
      | (with_reducible refine LeO.bind ?_ (fun _ => ?_))
      | exact ih0 _ _ _
      | exact LeO.none _
      | refine LeO.ite ?_ ?_
      | refine LeO.bind ?_ (fun _ => ?_)
set_option maxHeartbeats 8000000 in
set_option maxRecDepth 100000 in
theorem laws_toByteS.calls (k : Nat) (A0 : Option Addr) (c0 : Nat) (l0 : List Int) (r : List Int) (w : World) (hr0 : Kd.C (Kd.int .u8) w A0 l0.length l0) (hc0 : l0.length ≤ c0) (h : laws_toByteS.f k l0 = some r) :
    Calls Try.prog 8 #[.slice A0 l0.length c0] w fun e w' => ∃ v0_ : Value, e = .returned (v0_) ∧ Kd.R (Kd.int .u8) 5 w' w.heap.size (fun _ => True) v0_ r ∧ Below w.heap.size w w' := by
  have HR0 := Aside0.mk hr0
  have HC0 := Aside0.mk hc0
  clear hr0 hc0
  have HB := Aside0.mk (Below.refl w.heap.size w)
  have H : (if 0 ≤ (l0.length : Int) then (if ((l0.length : Int) : Int).toNat ≤ 281474976710656 then (laws_toByteS.l0 k l0 (List.replicate ((l0.length : Int) : Int).toNat 0) 0) else (none)) else (none)) = some r := h
  clear h
  by_cases c2 : 0 ≤ (l0.length : Int)
  · rw [if_pos c2] at H
    have c2b0 := eq_true c2
    have c2b1 : decide (0 ≤ (l0.length : Int)) = true := decide_eq_true c2
    clear c2
    by_cases c3 : ((l0.length : Int) : Int).toNat ≤ 281474976710656
    · rw [if_pos c3] at H
      have c3b0 := eq_true c3
      have c3b1 : decide (((l0.length : Int) : Int).toNat ≤ 281474976710656) = true := decide_eq_true c3
      clear c3
      obtain ⟨y133, hy133⟩ : ∃ y_ : List Int, y_ = (List.replicate ((l0.length : Int) : Int).toNat 0) := ⟨_, rfl⟩
      replace H : (laws_toByteS.l0 k l0 y133 0) = some r := by first | (rw [hy133]; with_reducible exact H) | (have H2_ := (Option.bind_some _ _).symm.trans H; rw [hy133]; with_reducible exact H2_) | (have H2_ := (Option.bind_some _ _).symm.trans H; with_reducible exact H2_) | with_reducible exact H | (rw [hy133]; exact H) | exact H
      have Ny133 := Aside0.mk hy133
      clear hy133
      have H' := Aside0.mk H
      clear H
      go_enter Try.func8, Try.ntmps8
      go_wp2_with (first | ((with_reducible refine gate_dst (N := 7) rfl ?_); refine Kd.R_make (Kd.int .u8) _ 5 rfl (N := 7) rfl 22 _ _ rfl (l0.length : Int) rfl rfl Try.underlying22 (.int .u8 0) 1 info5 rfl (by decide) (by omega) 0 (ok := fun _ => True) (okp := fun _ => True) rfl (fun _ hk => hk) trivial (of_decide_eq_true (by first | (with_reducible assumption) | assumption)) (Nat.le_trans (Nat.mul_le_mul_right _ (of_decide_eq_true (by first | (with_reducible assumption) | assumption) : (l0.length : Int).toNat ≤ 281474976710656)) (by omega)) (Below.refl _ _) (Nat.le_refl _) ?_; intro v134 w4 ho5 hb hg_ hnew_; clear hg_ hnew_; (first | rw [← Ny133.out] at ho5 | (simp only [Int.reduceToNat] at ho5; rw [← Ny133.out] at ho5)); have n0_ := Aside0.mk (Kd.R_lower ho5 (below_size (by repeat (first | (with_reducible first | exact HB.out | apply below_alloc | apply pw_below_drewN | apply below_drew1) | exact HB.out)))); have n1_ := Aside0.mk (below_step (by repeat (first | (with_reducible first | exact HB.out | apply below_alloc | apply pw_below_drewN | apply below_drew1) | exact HB.out)) hb); clear HB; have HO135 := n0_; have HB := n1_; clear n0_ n1_; clear hb ho5))
      go_loopg [4] k (fun kq v4 w' => ∃ (x3_1 : List Int) (x4_1 : Int), v4 = .int .i64 x4_1 ∧ Aside0 (laws_toByteS.l0 kq l0 x3_1 x4_1 = some r) ∧ Aside0 (kq ≤ k) ∧ Aside0 (Kd.R (Kd.int .u8) 5 w' w.heap.size (fun _ => True) v134 x3_1) ∧ Aside0 (Below w.heap.size w w'))
      case atStart => exact ⟨(y133), (0), (by first | rfl | (simp; done) | (simp [*]; done)), H', ⟨Nat.le_refl _⟩, ⟨by (with_reducible repeat (first | apply Kd.R_alloc | apply Kd.R_drewN | apply Kd.R_drew)); exact HO135.out⟩, ⟨by repeat (first | (with_reducible first | exact HB.out | apply below_alloc | apply pw_below_drewN | apply below_drew1) | exact HB.out)⟩⟩
      case round =>
        clear H'
        try clear c2
        try clear c2b0
        try clear c2b1
        try clear p2
        try clear c3
        try clear c3b0
        try clear c3b1
        obtain ⟨x3_1, x4_1, rfl, HA, HK1, HO_3, HB⟩ := hrel
        cases gk with
        | zero => exact absurd HA.out (by simp [laws_toByteS.l0])
        | succ k1 =>
          have H := HA.out
          clear HA
          simp only [laws_toByteS.l0] at H
          by_cases c6 : x4_1 < (l0.length : Int)
          · rw [if_pos c6] at H
            have c6b0 : decide (x4_1 < (l0.length : Int)) = true := decide_eq_true c6
            clear c6
            by_cases c7 : 0 ≤ x4_1
            · rw [if_pos c7] at H
              have c7b0 : decide (0 ≤ x4_1) = true := decide_eq_true c7
              clear c7
              by_cases c8 : x4_1 < (x3_1.length : Int)
              · rw [if_pos c8] at H
                have c8b0 : decide (x4_1 < (x3_1.length : Int)) = true := decide_eq_true c8
                clear c8
                obtain ⟨y137, hy137⟩ : ∃ y_ : List Int, y_ = (x3_1.set (x4_1 : Int).toNat (rd l0 x4_1)) := ⟨_, rfl⟩
                replace H : (laws_toByteS.l0 k1 l0 y137 (wrap64 (x4_1 + 1))) = some r := by first | (rw [hy137]; with_reducible exact H) | (have H2_ := (Option.bind_some _ _).symm.trans H; rw [hy137]; with_reducible exact H2_) | (have H2_ := (Option.bind_some _ _).symm.trans H; with_reducible exact H2_) | with_reducible exact H | (rw [hy137]; exact H) | exact H
                have Ny137 := Aside0.mk hy137
                clear hy137
                have H' := Aside0.mk H
                clear H
                have p136 : 0 ≤ (x4_1 : Int) := of_decide_eq_true (by first | (with_reducible assumption) | assumption)
                have q136 : x4_1 < (l0.length : Int) := of_decide_eq_true (by first | (with_reducible assumption) | assumption)
                obtain ⟨ad136, e136, hx136_0⟩ := Kd.at_int HR0.out x4_1 p136 q136
                cases e136
                replace hx136_0 := (HB.out.cell (World.block_lt_of_cell? w _ hx136_0)).trans hx136_0
                replace p136 := eq_true p136
                replace q136 := eq_true q136
                have p9 : 0 ≤ (x4_1 : Int) := of_decide_eq_true (by first | (with_reducible assumption) | assumption)
                have q9 : (x4_1 : Int) < ((x3_1.length : Int) : Int) := of_decide_eq_true (by first | (with_reducible assumption) | assumption)
                obtain ⟨go9, co9, eo9, gb9, gl9, cl9, HG9⟩ := Kd.R_form HO_3.out (by omega)
                (first | cases eo9 | (injection eo9 with ea_ en_ ec_; (first | subst ea_ | (injection ea_ with ea_; subst ea_)); subst ec_; clear en_))
                have GB9 := Aside0.mk gb9
                have GG9 := Aside0.mk HG9
                clear gb9 gl9 HG9
                obtain ⟨hx9_0, hf9_0⟩ := Kd.R_celln 0 HO_3.out (x4_1 : Int) p9 q9
                replace p9 := eq_true p9
                replace q9 := eq_true q9
                have HP10 := Kd.R_putg HO_3.out (x4_1 : Int) (rd l0 x4_1)
                go_wp2_with (first | ((with_reducible refine gate_store (t := 5) (p := 20) rfl ?_); refine store_event (t := 5) (p := 20) (v := ?vo_w11) (w1 := (wr.setCell ⟨go9, (x4_1 : Int).toNat, none⟩ (.int .u8 (rd l0 x4_1)))) ?hg ?ho ?hn ?hr ?_; (case ho => rfl); (case hg => rfl); (case hn => rfl); (case hr => first | (go_simp; done) | (go_simp; rfl)); intro w11 hw; have hg : wr.grownBy w11 (some go9) := (by rw [hw]; exact HP10.2); have hp_ : Kd.R (Kd.int .u8) 5 w11 w.heap.size (fun _ => True) (.slice (some ⟨go9, 0, none⟩) x3_1.length co9) y137 := (by rw [hw, Ny137.out]; exact HP10.1); clear HP10; have n0_ := Aside0.mk (hp_); have n1_ := Aside0.mk ((by rw [hw]; exact below_set (HB.out) GB9.out : Below w.heap.size w w11)); clear HO_3; clear HB; have HO_3 := n0_; have HB := n1_; clear n0_ n1_; clear hg hw hp_))
                go_roundg k1
                case measure => have := HK1.out; omega
                case rel => exact ⟨(y137), (wrap64 (x4_1 + 1)), (by first | rfl | (simp; done) | (simp [*]; done)), H', ⟨by have := HK1.out; omega⟩, ⟨by (with_reducible repeat (first | apply Kd.R_alloc | apply Kd.R_drewN | apply Kd.R_drew)); exact HO_3.out⟩, ⟨by repeat (first | (with_reducible first | exact HB.out | apply below_alloc | apply pw_below_drewN | apply below_drew1) | exact HB.out)⟩⟩
              · rw [if_neg c8] at H
                exact absurd H (by simp)
            · rw [if_neg c7] at H
              exact absurd H (by simp)
          · rw [if_neg c6] at H
            have c6b0 : decide (x4_1 < (l0.length : Int)) = false := decide_eq_false c6
            clear c6
            obtain rfl := Option.some.inj H
            go_wp2
            go_ret
            exact ⟨_, by first | rfl | (simp [errW_none, errW_some] <;> rfl) | (simp [*, errW_none, errW_some] <;> rfl), by (with_reducible repeat (first | apply Kd.R_alloc | apply Kd.R_drewN | apply Kd.R_drew)); exact HO_3.out, by repeat (first | (with_reducible first | exact HB.out | apply below_alloc | apply pw_below_drewN | apply below_drew1) | exact HB.out)⟩
    · rw [if_neg c3] at H
      exact absurd H (by simp)
  · rw [if_neg c2] at H
    exact absurd H (by simp)

/-! ### impl_Pack: function 50, by hand -/
def Cap (w0 : World) (bx : Nat) (xs : List Int) (W : World) : Prop := ∃ v, W.heap[bx]? = some (.cells #[v] 22 (0,0)) ∧ Kd.R (Kd.int .u8) 5 W w0.heap.size (fun _ => True) v xs ∧ Below w0.heap.size w0 W ∧ w0.heap.size ≤ bx

set_option maxHeartbeats 1000000 in
set_option maxRecDepth 100000 in
theorem pack1 (bx : Nat) (xs : List Int) (g : Int) (w0 w : World) (hC : Cap w0 bx xs w) (hl : xs.length + 1 ≤ 140737488355328) (h0: 0 ≤ g) (h1 : g ≤ 255) :
   Calls Try.prog 75 #[.int .u8 g, .pointer (some ⟨bx,0,none⟩)] w fun e w' => e = .returned (.tuple #[]) ∧ Cap w0 bx (xs ++ [(128+g)%256]) w' := by
  obtain ⟨v, hb, HO0, HB0, hbx⟩ := hC
  have HB := Aside0.mk HB0
  have HO := Aside0.mk HO0
  have BK := Aside0.mk hb
  have HL := Aside0.mk hl
  clear HB0 HO0 hl
  have hc : w.cell? ⟨bx, 0, none⟩ = some v := (blk_cell BK.out 0).trans rfl
  have hf := blk_frozen BK.out 0
  clear hb
  go_enter Try.func75, Try.ntmps75
  go_wp2_with (((with_reducible refine gate_builtin (b := .append) (xs := #[.tmp 3, .tmp 6]) rfl ?_); at_builtin; refine Kd.R_append (Kd.int .u8) (w0 := w0) w0.heap.size rfl (.tmp 3) (.tmp 6) 22 5 (.int .u8 0) 1 rfl Try.underlying22 info5 rfl (by decide) (by omega) v xs ((128 + g) % 256) [.int .u8 ((128 + g) % 256)] (fun _ => True) (fun _ => False) rfl rfl ?aP (fun _ hk => hk.elim) ?aF ?aO ?aB ?aS ?aL ?_; (case aP => exact rfl); (case aB => exact HB.out); (case aF => exact (fun _ _ => trivial)); (case aO => exact HO.out); (case aS => exact HB.out.size); (case aL => have := HL.out; omega); intro v116 w12 ho hb2 hg hat; have HO2 := Aside0.mk ho; have HB2 := Aside0.mk hb2; have HG := Aside0.mk hg; have BK2 := Aside0.mk (blk_grown BK.out hg (Kd.R_ne HO.out BK.out (by decide))); have hc2 : w12.cell? ⟨bx, 0, none⟩ = some v := (blk_cell BK2.out 0).trans rfl; obtain ⟨Ao2, co2, eo2⟩ := Kd.R_slice HO2.out; subst eo2; have hf2 := blk_frozen BK2.out 0; clear hc hf BK HO HB ho hb2 hg hat))
  go_end0
  have HO3 := HO2.out
  rw [show (xs ++ [(128 + g) % 256]).length = xs.length + 1 from by simp] at HO3
  exact ⟨rfl, .slice Ao2 (xs.length + 1) co2, blk_set BK2.out 0 _, Kd.R_set HO3 BK2.out (by decide) 0 _, below_set HB2.out hbx, hbx⟩


def drainM (tt : Nat) : Nat → Nat → Nat → List Int → Nat × Nat × List Int
  | 0, p, r, out => (p, r, out)
  | k+1, p, r, out => if tt ≤ r then drainM tt k (p % 2^(r-tt)) (r-tt) (out ++ [((p / 2^(r-tt) : Nat) : Int)]) else (p, r, out)
def feedM (frm tt : Nat) (s : Nat × Nat × List Int) (b : Int) : Nat × Nat × List Int := drainM tt 2 (s.1 * 2^frm + b.toNat % 2^frm) (s.2.1 + frm) s.2.2
def runM (frm tt : Nat) (l : List Int) : Nat × Nat × List Int := l.foldl (feedM frm tt) (0, 0, [])
def finM (tt : Nat) (s : Nat × Nat × List Int) : List Int := if 0 < s.2.1 then s.2.2 ++ [((s.1 * 2^(tt - s.2.1) : Nat) : Int)] else s.2.2

theorem wrap_u16 (n : Int) : IntKind.u16.wrap n = n % 65536 := by simp [IntKind.wrap, IntKind.bits, IntKind.signed]
theorem wraps_u16 (n : Int) (h₀ : 0 ≤ n) (h₁ : n < 2 ^ 16) : IntKind.u16.wrap n = n := by rw [wrap_u16]; omega
theorem or_lem (acc b : Int) (h0 : 0 ≤ acc) (h2 : 0 ≤ b) (h3 : b < 256) : bits .or .u16 (IntKind.u16.wrap (acc * 256)) b = (acc * 256) % 65536 + b := by
  rw [wrap_u16]
  exact bits_join .u16 16 (by decide) wraps_u16 8 _ _ (by omega) (by omega) (by omega) (by omega) (by omega) (by omega)
theorem and_lem8 (b : Int) (h2 : 0 ≤ b) (h3 : b < 65536) : bits .and .u16 b 255 = b % 256 := bits_mask .u16 16 (by decide) wraps_u16 8 (by decide) b h2 h3
theorem and_lem7 (b : Int) (h2 : 0 ≤ b) (h3 : b < 65536) : bits .and .u16 b 127 = b % 128 := bits_mask .u16 16 (by decide) wraps_u16 7 (by decide) b h2 h3

theorem emit_lem (acc : Int) (p r : Nat) (h0 : 0 ≤ acc) (h1 : acc < 65536) (hp : p = acc.toNat % 2 ^ r) (hr : 7 ≤ r) (hr2 : r ≤ 14) :
    bits .and .u16 (acc / 2 ^ (r - 7)) 127 % 256 = ((p / 2 ^ (r - 7) : Nat) : Int) ∧ ((p / 2 ^ (r - 7) : Nat) : Int) ≤ 255 ∧ p % 2 ^ (r - 7) = acc.toNat % 2 ^ (r - 7) := by
  have hr' : r = 7 ∨ r = 8 ∨ r = 9 ∨ r = 10 ∨ r = 11 ∨ r = 12 ∨ r = 13 ∨ r = 14 := by omega
  rcases hr' with rfl | rfl | rfl | rfl | rfl | rfl | rfl | rfl <;> (rw [and_lem7 _ (by omega) (by omega)]; simp only [Nat.reduceSub, Nat.reducePow, Int.reducePow] at *; omega)
theorem feed_lem (acc acc2 b : Int) (r : Nat) (h0 : 0 ≤ acc) (h1 : acc < 65536) (hb0 : 0 ≤ b) (hb1 : b ≤ 255) (h2 : acc2 = (acc * 256) % 65536 + b) (hr : r < 7) :
    acc2.toNat % 2 ^ (r + 8) = acc.toNat % 2 ^ r * 2 ^ 8 + b.toNat % 2 ^ 8 := by
  have hr' : r = 0 ∨ r = 1 ∨ r = 2 ∨ r = 3 ∨ r = 4 ∨ r = 5 ∨ r = 6 := by omega
  rcases hr' with rfl | rfl | rfl | rfl | rfl | rfl | rfl <;> (simp only [Nat.reduceAdd, Nat.reducePow] at *; omega)
theorem run_snoc (frm tt : Nat) (l : List Int) (j : Nat) (hj : j < l.length) : runM frm tt (l.take (j + 1)) = feedM frm tt (runM frm tt (l.take j)) (rd l j) := by
  rw [List.take_succ_eq_append_getElem hj, runM, List.foldl_append]
  simp [runM, rd, hj]

theorem last_lem (acc : Int) (r : Nat) (h0 : 0 ≤ acc) (h1 : acc < 65536) (hr0 : 0 < r) (hr : r < 7) :
    bits .and .u16 (IntKind.u16.wrap (acc * 2 ^ (7 - r))) 127 % 256 = ((acc.toNat % 2 ^ r * 2 ^ (7 - r) : Nat) : Int) ∧ ((acc.toNat % 2 ^ r * 2 ^ (7 - r) : Nat) : Int) ≤ 255 := by
  have hr' : r = 1 ∨ r = 2 ∨ r = 3 ∨ r = 4 ∨ r = 5 ∨ r = 6 := by omega
  rw [wrap_u16]
  rcases hr' with rfl | rfl | rfl | rfl | rfl | rfl <;> (rw [and_lem7 _ (by omega) (by omega)]; simp only [Nat.reduceSub, Nat.reducePow, Int.reducePow] at *; omega)

set_option maxHeartbeats 1000000 in
set_option maxRecDepth 100000 in
theorem shift1 (bx : Nat) (A0 : Option Addr) (c0 : Nat) (l0 : List Int) (w0 w : World) (hC : Cap w0 bx [] w) (hr0 : Kd.C (Kd.int .u8) w0 A0 l0.length l0) (hby : ∀ j : Nat, j < l0.length → 0 ≤ rd l0 j ∧ rd l0 j ≤ 255) (hl : l0.length ≤ 1099511627776) :
   Calls Try.prog 74 #[.slice A0 l0.length c0, .int .u64 8, .int .u64 7, .func (.func 75) #[] #[.pointer (some ⟨bx,0,none⟩)]] w fun e w' => e = .returned (.int .u64 (runM 8 7 l0).2.1) ∧ Cap w0 bx ((finM 7 (runM 8 7 l0)).map fun g => (128 + g) % 256) w' := by
  have HC := Aside0.mk hC
  have HR := Aside0.mk hr0
  have HBY := Aside0.mk hby
  clear hC hr0 hby
  go_enter Try.func74, Try.ntmps74
  go_wp2_with fail
  go_loopw [8, 9, 11, 14] (fun v8 v9 v11 v14 W => ∃ (j : Nat) (rest : Nat) (acc : Int) (out : List Int), v8 = .int .u64 rest ∧ v9 = .int .u16 acc ∧ v14 = .int .i64 j ∧ j ≤ l0.length ∧ rest < 7 ∧ 0 ≤ acc ∧ acc < 65536 ∧ Aside0 (runM 8 7 (l0.take j) = (acc.toNat % 2^rest, rest, out)) ∧ Aside0 (out.length ≤ 2 * j) ∧ Aside0 (Cap w0 bx (out.map fun g => (128 + g) % 256) W)) (fun _ _ _ v14 _ => l0.length - (intOf v14).toNat)
  case atStart => exact ⟨0, 0, 0, [], rfl, rfl, rfl, by omega, by omega, by omega, by omega, ⟨rfl⟩, ⟨by simp⟩, HC⟩
  case round =>
    obtain ⟨j, rest, acc, out, rfl, rfl, rfl, hj, hr2, ha1, ha2, HRUN, HLEN, HC⟩ := hrel
    by_cases hlt : j < l0.length
    · obtain ⟨v, hb, HO0, HB0, hbx⟩ := HC.out
      obtain ⟨ad, hA, hcell⟩ := Kd.at_int (Kd.C_below HR.out HB0) (j : Int) (by omega) (by omega)
      rw [Int.toNat_natCast] at hcell
      clear hb HO0 HB0 hbx v
      subst hA
      obtain ⟨hb0, hb1⟩ := HBY.out j hlt
      obtain ⟨b, hbe⟩ : ∃ b, b = rd l0 j := ⟨_, rfl⟩
      rw [← hbe] at hcell hb0 hb1
      have HBE := Aside0.mk hbe
      clear hbe
      have hand : bits .and .u16 b 255 = b := by rw [and_lem8 b hb0 (by omega)]; omega
      have hor := or_lem acc b ha1 hb0 (by omega)
      obtain ⟨acc2, hacc2⟩ : ∃ acc2, acc2 = (acc * 256) % 65536 + b := ⟨_, rfl⟩
      rw [← hacc2] at hor
      have h20 : 0 ≤ acc2 := by omega
      have h21 : acc2 < 65536 := by omega
      have HACC := Aside0.mk hacc2
      clear hacc2
      go_wp2_with fail
      clear hor hand hcell
      go_loopw [8] (fun v8 W => ∃ (k p r : Nat) (o2 : List Int), v8 = .int .u64 r ∧ r < 7 * (k + 1) ∧ r ≤ 14 ∧ Aside0 (p = acc2.toNat % 2^r) ∧ Aside0 (o2.length + k ≤ 2 * j + 2) ∧ Aside0 (drainM 7 k p r o2 = runM 8 7 (l0.take (j+1))) ∧ Aside0 (Cap w0 bx (o2.map fun g => (128 + g) % 256) W)) (fun v8 _ => (intOf v8).toNat)
      case atStart => exact ⟨2, acc2.toNat % 2 ^ (rest + 8), rest + 8, out, by go_num, by omega, by omega, ⟨rfl⟩, ⟨by have := HLEN.out; omega⟩, ⟨by rw [run_snoc 8 7 l0 j hlt, HRUN.out, feedM, ← HBE.out, feed_lem acc acc2 b rest ha1 ha2 hb0 hb1 HACC.out (by omega)]⟩, HC⟩
      case round =>
        obtain ⟨k, p, r, o2, rfl, hrk, hr14, HP, HL2, HD, HC2⟩ := hrel
        by_cases hge : 7 ≤ r
        · obtain ⟨e1, e2, e3⟩ := emit_lem acc2 p r h20 h21 HP.out hge hr14
          obtain ⟨k, rfl⟩ : ∃ k', k = k' + 1 := ⟨k - 1, by omega⟩
          have HD2 := HD.out
          rw [drainM, if_pos hge] at HD2
          have E1 := Aside0.mk e1
          have E3 := Aside0.mk e3
          have HD3 := Aside0.mk HD2
          clear e1 e3 HD2
          go_wp2_with fail
          rw [E1.out]
          obtain ⟨q, hq⟩ : ∃ q : Nat, q = p / 2 ^ (r - 7) := ⟨_, rfl⟩
          have HQ := Aside0.mk hq
          rw [← hq]
          rw [← hq] at e2
          clear hq
          refine (pack1 bx _ q w0 _ HC2.out (by simp; have := HL2.out; omega) (by omega) e2).mono ?_
          rintro e W2 ⟨rfl, hc2⟩
          have HC3 := Aside0.mk hc2
          clear hc2
          go_wp2_with fail
          go_roundw
          case rel => exact ⟨k, p % 2 ^ (r - 7), r - 7, o2 ++ [(q : Int)], by go_num, by omega, by omega, E3, ⟨by have := HL2.out; simp; omega⟩, ⟨by rw [HQ.out]; exact HD3.out⟩, ⟨by simpa using HC3.out⟩⟩
          case measure => simp [intOf]; omega
        · have HD2 := HD.out
          have hd : drainM 7 k p r o2 = (p, r, o2) := by cases k with
            | zero => rfl
            | succ k => rw [drainM, if_neg hge]
          rw [hd] at HD2
          have HD3 := Aside0.mk HD2
          clear hd HD2
          go_wp2_with fail
          refine ⟨⟨j + 1, r, acc2, o2, rfl, rfl, by go_num, by omega, by omega, h20, h21, ⟨by rw [← HD3.out, HP.out]⟩, ⟨by have := HL2.out; omega⟩, HC2⟩, ?_⟩
          simp [intOf]; omega
    · have hj2 : l0.take j = l0 := List.take_of_length_le (by omega)
      have HR2 := HRUN.out
      rw [hj2] at HR2
      have HR3 := Aside0.mk HR2
      clear hj2 HR2 HRUN
      by_cases hz : rest = 0
      · subst hz
        go_wp2_with fail
        go_ret
        exact ⟨by rw [HR3.out]; rfl, by rw [HR3.out]; exact HC.out⟩
      · obtain ⟨e1, e2⟩ := last_lem acc rest ha1 ha2 (by omega) hr2
        obtain ⟨q, hq⟩ : ∃ q : Nat, q = acc.toNat % 2 ^ rest * 2 ^ (7 - rest) := ⟨_, rfl⟩
        rw [← hq] at e1 e2
        have HQ := Aside0.mk hq
        have E1 := Aside0.mk e1
        clear hq e1
        go_wp2_with fail
        rw [E1.out]
        refine (pack1 bx _ q w0 _ HC.out (by simp; have := HLEN.out; omega) (by omega) e2).mono ?_
        rintro e W2 ⟨rfl, hc2⟩
        have HC3 := Aside0.mk hc2
        clear hc2
        go_wp2_with fail
        go_ret
        exact ⟨by rw [HR3.out]; rfl, by rw [HR3.out, finM, if_pos (by show 0 < rest; omega), ← HQ.out]; simpa using HC3.out⟩

def packM (l0 : List Int) : List Int := (finM 7 (runM 8 7 l0)).map fun g => (128 + g) % 256
def okBytes (l : List Int) : Bool := l.all fun x => decide (0 ≤ x ∧ x ≤ 255)
def impl_Pack.f (l0 : List Int) : Option (List Int) := if okBytes l0 = true ∧ l0.length ≤ 1099511627776 then some (packM l0) else none
theorem okBytes_rd {l : List Int} (h : okBytes l = true) (j : Nat) (hj : j < l.length) : 0 ≤ rd l j ∧ rd l j ≤ 255 := by
  unfold okBytes at h
  rw [List.all_eq_true] at h
  have := h l[j] (List.getElem_mem hj)
  simpa [rd, hj] using this
set_option maxHeartbeats 1000000 in
set_option maxRecDepth 100000 in
theorem impl_Pack.calls (A0 : Option Addr) (c0 : Nat) (l0 : List Int) (r : List Int) (w : World) (hr0 : Kd.C (Kd.int .u8) w A0 l0.length l0) (hc0 : l0.length ≤ c0) (h : impl_Pack.f l0 = some r) :
    Calls Try.prog 50 #[.slice A0 l0.length c0] w fun e w' => ∃ v0_ : Value, e = .returned (v0_) ∧ Kd.R (Kd.int .u8) 5 w' w.heap.size (fun _ => True) v0_ r ∧ Below w.heap.size w w' := by
  unfold impl_Pack.f at h
  obtain ⟨⟨hok, hlen⟩, rfl⟩ : (okBytes l0 = true ∧ l0.length ≤ 1099511627776) ∧ packM l0 = r := by
    split at h
    · exact ⟨‹_›, Option.some.inj h⟩
    · cases h
  clear h
  have HOK := Aside0.mk hok
  have HR0 := Aside0.mk hr0
  clear hok hr0
  have hmf : ∀ (fn : Fn) (first cap : Array Value) (w : World), (Instr.makeFunc fn first cap).run Try.prog w = .ok (.func fn first cap) w := fun _ _ _ _ => rfl
  go_enter Try.func50, Try.ntmps50
  go_wp2_with fail
  refine (shift1 w.heap.size A0 c0 l0 w _ ⟨_, blk_new w (.cells #[.slice none 0 0] 22), Kd.R_nil _ _ _ _ _, below_alloc (Below.refl _ _) _, Nat.le_refl _⟩ HR0.out (okBytes_rd HOK.out) hlen).mono ?_
  rintro e W ⟨rfl, hcap⟩
  have hcap2 : Cap w w.heap.size (packM l0) W := hcap
  clear hcap
  obtain ⟨ys, hys⟩ : ∃ ys, ys = packM l0 := ⟨_, rfl⟩
  rw [← hys] at hcap2
  have HY := Aside0.mk hys
  clear hys
  obtain ⟨v, hb, HO, HB, hbx⟩ := hcap2
  have hc : W.cell? ⟨w.heap.size, 0, none⟩ = some v := (blk_cell hb 0).trans rfl
  have HO2 := Aside0.mk HO
  have HB2 := Aside0.mk HB
  obtain ⟨Ao2, co2, eo2⟩ := Kd.R_slice HO2.out
  subst eo2
  clear hb HO HB
  go_wp2
  go_ret
  exact ⟨_, rfl, by rw [← HY.out]; exact HO2.out, HB2.out⟩

/-! ### bytes_Equal: function 81 -/
def bytes_Equal.f (l0 : List Int) (l1 : List Int) : Option (Bool) := some ((strOfNums l0).toList == (strOfNums l1).toList)
set_option maxHeartbeats 8000000 in
set_option maxRecDepth 100000 in
theorem bytes_Equal.calls (A0 : Option Addr) (c0 : Nat) (l0 : List Int) (A1 : Option Addr) (c1 : Nat) (l1 : List Int) (r : Bool) (w : World) (hr0 : Kd.C (Kd.int .u8) w A0 l0.length l0) (hc0 : l0.length ≤ c0) (hr1 : Kd.C (Kd.int .u8) w A1 l1.length l1) (hc1 : l1.length ≤ c1) (h : bytes_Equal.f l0 l1 = some r) :
    Calls Try.prog 81 #[.slice A0 l0.length c0, .slice A1 l1.length c1] w fun e w' => e = .returned (.bool r) ∧ Drawn0 w w' := by
  have HR0 := Aside0.mk hr0
  have HC0 := Aside0.mk hc0
  clear hr0 hc0
  have HR1 := Aside0.mk hr1
  have HC1 := Aside0.mk hc1
  clear hr1 hc1
  have H : (some ((strOfNums l0).toList == (strOfNums l1).toList)) = some r := h
  clear h
  obtain rfl := Option.some.inj H
  have hcv3 := Kd.C_string (P := Try.prog) (A := A0) (c := c0) Try.underlying22 Try.underlying5 Try.underlying9 HR0.out
  have hcv4 := Kd.C_string (P := Try.prog) (A := A1) (c := c1) Try.underlying22 Try.underlying5 Try.underlying9 HR1.out
  go_enter Try.func81, Try.ntmps81
  go_wp2
  go_ret
  exact ⟨by first | rfl | (simp; done) | (simp [*]; done), by repeat (first | exact Drawn0.refl _ | apply Drawn0.step)⟩

end Go.Proofs.Ytejecjjimggjeaa.GFnExactScanFrames
