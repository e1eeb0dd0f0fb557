/- Written by give.py, a program of this session, that runs the kit's print and lays contracts proved by hand beside it. -/
import Derived.Test.YtejecjjimggjeaaGFnSyncx0
import Derived.Test.YtejecjjimggjeaaGFnSyncx8
import Derived.Test.YtejecjjimggjeaaGFnSyncx9
namespace Go.Proofs.Ytejecjjimggjeaa.GFnSync
open Go.RowKit Go.Proofs.YtejecjjimggjeaaW.PrintWords Go.Proofs.YtejecjjimggjeaaW.PrintLast Go.Proofs.YtejecjjimggjeaaW.PrintMore
attribute [local go_sem] max2_int min2_int max_two min_two max_three min_three max_four min_four
attribute [local go_sem high] Go.Proofs.YtejecjjimggjeaaH.str_leq Go.Proofs.YtejecjjimggjeaaH.str_geq Go.Proofs.YtejecjjimggjeaaH.str_gtr   -- for this text's walks alone
set_option linter.unusedVariables false
set_option linter.unusedSimpArgs false

def impl_DiskRead.g (l0_0 : List Int) (l0_1 : List S45) (b : Nat) : Option (List Int) := if l0_0.length ≤ 100000000 ∧ l0_1.length ≤ 1000000 ∧ 64 * b + 64 ≤ l0_0.length ∧ l0_1.all (fun p => decide (p.f1.length = 64)) = true then some (readP l0_0 (yng l0_1) b) else none
def impl_DiskRead.f (k : Nat) (l0_0 : List Int) (l0_1 : List S45) (a1 : Int) : Option (List Int) := (impl_ValidDisk.f k l0_0 l0_1).bind fun t => (if t = true then (if a1 < 0 then some [] else ((impl_Disk_blocks.f l0_0 l0_1).bind fun n => (if a1 ≥ n then some [] else (impl_DiskRead.g l0_0 l0_1 a1.toNat)))) else some [])
theorem impl_DiskRead.mono : ∀ l0_0 l0_1 a1 k, LeO (impl_DiskRead.f k l0_0 l0_1 a1) (impl_DiskRead.f (k + 1) l0_0 l0_1 a1) := by
 intro l0_0 l0_1 a1 k
 unfold impl_DiskRead.f
 exact LeO.bind (impl_ValidDisk.mono _ _ _) (fun _ => LeO.refl _)
set_option maxHeartbeats 8000000 in
set_option maxRecDepth 100000 in
theorem impl_DiskRead.calls (k : Nat) (A0_0 : Option Addr) (c0_0 : Nat) (l0_0 : List Int) (A0_1 : Option Addr) (c0_1 : Nat) (l0_1 : List S45) (a1 : Int) (r : List Int) (w : World) (hr0_0 : Kd.C (Kd.int .u8) w A0_0 l0_0.length l0_0) (hc0_0 : l0_0.length ≤ c0_0) (hr0_1 : Kd.C k45 w A0_1 l0_1.length l0_1) (hc0_1 : l0_1.length ≤ c0_1) (h : impl_DiskRead.f k l0_0 l0_1 a1 = some r) :
  Calls Try.prog 18 #[.agg #[.slice A0_0 l0_0.length c0_0, .slice A0_1 l0_1.length c0_1], .int .i64 a1] w fun e w' => ∃ v0_ : Value, e = .returned (v0_) ∧ Kd.R (Kd.int .u8) 76 w' w.heap.size (fun _ => True) v0_ r ∧ Below w.heap.size w w' := by
 have HR0 := Aside0.mk hr0_0
 have HC0 := Aside0.mk hc0_0
 have HR1 := Aside0.mk hr0_1
 have HC1 := Aside0.mk hc0_1
 clear hr0_0 hc0_0 hr0_1 hc0_1
 unfold impl_DiskRead.f at h
 obtain ⟨t, ht, h⟩ := Option.bind_eq_some_iff.mp h
 have HVD := Aside0.mk ht
 clear ht
 cases t with
 | false =>
  rw [if_neg (by decide)] at h
  obtain rfl := Option.some.inj h
  clear h
  go_enter Try.func18, Try.ntmps18
  go_wp2_with (first | ((with_reducible refine zt (N := 2) rfl ?_); refine Go.Proofs.YtejecjjimggjeaaH.box_arr (cs := #[.slice A0_0 l0_0.length c0_0, .slice A0_1 l0_1.length c0_1]) rfl (t := 35) rfl (N := 2) rfl rfl ?_; intro g1 hg1 w1 hA1 hb1; have HA1 := Aside0.mk hA1; have HB1 := Aside0.mk hb1; have hc10 : w1.cell? ⟨g1, 0, none⟩ = some (.slice A0_0 l0_0.length c0_0) := (zb HA1.out 0).trans rfl; have hc11 : w1.cell? ⟨g1, 1, none⟩ = some (.slice A0_1 l0_1.length c0_1) := (zb HA1.out 1).trans rfl; clear hA1 hb1 hg1) | ((with_reducible refine zo (f := 39) rfl ?_); refine zC (some 7) rfl rfl Try.func39 (by kernel_rfl) rfl #[.agg #[.slice A0_0 l0_0.length c0_0, .slice A0_1 l0_1.length c0_1]] rfl (by (try simp only [List.map_toArray, List.map_cons, List.map_nil]); first | done | rfl) ?_; refine (impl_ValidDisk.calls k A0_0 c0_0 l0_0 A0_1 c0_1 l0_1 _ w1 (Kd.C_below HR0.out HB1.out) HC0.out (Kd.C_below HR1.out HB1.out) HC1.out HVD.out).mono ?_; rintro e w2 ⟨rfl, hb2⟩; refine ⟨_, rfl, ?_⟩; have HA12 := Aside0.mk ((hb2.block _ (zr HA1.out)).trans HA1.out); have HB2 := Aside0.mk (zk HB1.out hb2); clear hb2 hc10 hc11; have hc10 : w2.cell? ⟨g1, 0, none⟩ = some (.slice A0_0 l0_0.length c0_0) := (zb HA12.out 0).trans rfl; have hc11 : w2.cell? ⟨g1, 1, none⟩ = some (.slice A0_1 l0_1.length c0_1) := (zb HA12.out 1).trans rfl))
  go_ret
  exact ⟨_, rfl, Kd.R_nil _ _ _ _ _, HB2.out⟩
 | true =>
  rw [if_pos rfl] at h
  by_cases c1 : a1 < 0
  ·rw [if_pos c1] at h
   obtain rfl := Option.some.inj h
   clear h
   have c0 : decide (a1 < 0) = true := decide_eq_true c1
   clear c1
   go_enter Try.func18, Try.ntmps18
   go_wp2_with (first | ((with_reducible refine zt (N := 2) rfl ?_); refine Go.Proofs.YtejecjjimggjeaaH.box_arr (cs := #[.slice A0_0 l0_0.length c0_0, .slice A0_1 l0_1.length c0_1]) rfl (t := 35) rfl (N := 2) rfl rfl ?_; intro g1 hg1 w1 hA1 hb1; have HA1 := Aside0.mk hA1; have HB1 := Aside0.mk hb1; have hc10 : w1.cell? ⟨g1, 0, none⟩ = some (.slice A0_0 l0_0.length c0_0) := (zb HA1.out 0).trans rfl; have hc11 : w1.cell? ⟨g1, 1, none⟩ = some (.slice A0_1 l0_1.length c0_1) := (zb HA1.out 1).trans rfl; clear hA1 hb1 hg1) | ((with_reducible refine zo (f := 39) rfl ?_); refine zC (some 7) rfl rfl Try.func39 (by kernel_rfl) rfl #[.agg #[.slice A0_0 l0_0.length c0_0, .slice A0_1 l0_1.length c0_1]] rfl (by (try simp only [List.map_toArray, List.map_cons, List.map_nil]); first | done | rfl) ?_; refine (impl_ValidDisk.calls k A0_0 c0_0 l0_0 A0_1 c0_1 l0_1 _ w1 (Kd.C_below HR0.out HB1.out) HC0.out (Kd.C_below HR1.out HB1.out) HC1.out HVD.out).mono ?_; rintro e w2 ⟨rfl, hb2⟩; refine ⟨_, rfl, ?_⟩; have HA12 := Aside0.mk ((hb2.block _ (zr HA1.out)).trans HA1.out); have HB2 := Aside0.mk (zk HB1.out hb2); clear hb2 hc10 hc11; have hc10 : w2.cell? ⟨g1, 0, none⟩ = some (.slice A0_0 l0_0.length c0_0) := (zb HA12.out 0).trans rfl; have hc11 : w2.cell? ⟨g1, 1, none⟩ = some (.slice A0_1 l0_1.length c0_1) := (zb HA12.out 1).trans rfl))
   go_ret
   exact ⟨_, rfl, Kd.R_nil _ _ _ _ _, HB2.out⟩
  ·rw [if_neg c1] at h
   have c0 : decide (a1 < 0) = false := decide_eq_false c1
   obtain ⟨n, hn, h⟩ := Option.bind_eq_some_iff.mp h
   have HBL := Aside0.mk hn
   clear hn
   by_cases c2 : a1 ≥ n
   ·rw [if_pos c2] at h
    obtain rfl := Option.some.inj h
    clear h
    have c3 : decide (n ≤ a1) = true := decide_eq_true c2
    clear c1 c2
    go_enter Try.func18, Try.ntmps18
    go_wp2_with (first | ((with_reducible refine zt (N := 2) rfl ?_); refine Go.Proofs.YtejecjjimggjeaaH.box_arr (cs := #[.slice A0_0 l0_0.length c0_0, .slice A0_1 l0_1.length c0_1]) rfl (t := 35) rfl (N := 2) rfl rfl ?_; intro g1 hg1 w1 hA1 hb1; have HA1 := Aside0.mk hA1; have HB1 := Aside0.mk hb1; have hc10 : w1.cell? ⟨g1, 0, none⟩ = some (.slice A0_0 l0_0.length c0_0) := (zb HA1.out 0).trans rfl; have hc11 : w1.cell? ⟨g1, 1, none⟩ = some (.slice A0_1 l0_1.length c0_1) := (zb HA1.out 1).trans rfl; clear hA1 hb1 hg1) | ((with_reducible refine zo (f := 39) rfl ?_); refine zC (some 7) rfl rfl Try.func39 (by kernel_rfl) rfl #[.agg #[.slice A0_0 l0_0.length c0_0, .slice A0_1 l0_1.length c0_1]] rfl (by (try simp only [List.map_toArray, List.map_cons, List.map_nil]); first | done | rfl) ?_; refine (impl_ValidDisk.calls k A0_0 c0_0 l0_0 A0_1 c0_1 l0_1 _ w1 (Kd.C_below HR0.out HB1.out) HC0.out (Kd.C_below HR1.out HB1.out) HC1.out HVD.out).mono ?_; rintro e w2 ⟨rfl, hb2⟩; refine ⟨_, rfl, ?_⟩; have HA12 := Aside0.mk ((hb2.block _ (zr HA1.out)).trans HA1.out); have HB2 := Aside0.mk (zk HB1.out hb2); clear hb2 hc10 hc11; have hc10 : w2.cell? ⟨g1, 0, none⟩ = some (.slice A0_0 l0_0.length c0_0) := (zb HA12.out 0).trans rfl; have hc11 : w2.cell? ⟨g1, 1, none⟩ = some (.slice A0_1 l0_1.length c0_1) := (zb HA12.out 1).trans rfl) | ((with_reducible refine zo (f := 40) rfl ?_); (try (refine gate_guard (by rfl) ?_; dsimp only)); refine zC (some 16) rfl rfl Try.func40 (by kernel_rfl) rfl #[.agg #[.slice A0_0 l0_0.length c0_0, .slice A0_1 l0_1.length c0_1]] rfl (by (try simp only [List.map_toArray, List.map_cons, List.map_nil]); first | done | rfl) ?_; refine (impl_Disk_blocks.calls A0_0 c0_0 l0_0 A0_1 c0_1 l0_1 _ w2 (Kd.C_below HR0.out HB2.out) HC0.out (Kd.C_below HR1.out HB2.out) HC1.out HBL.out).mono ?_; rintro e w3 ⟨rfl, hb3⟩; refine ⟨_, rfl, ?_⟩; have HA13 := Aside0.mk ((hb3.block _ (zr HA12.out)).trans HA12.out); have HB3 := Aside0.mk (zk HB2.out hb3); clear hb3 hc10 hc11; have hc10 : w3.cell? ⟨g1, 0, none⟩ = some (.slice A0_0 l0_0.length c0_0) := (zb HA13.out 0).trans rfl; have hc11 : w3.cell? ⟨g1, 1, none⟩ = some (.slice A0_1 l0_1.length c0_1) := (zb HA13.out 1).trans rfl))
    go_ret
    exact ⟨_, rfl, Kd.R_nil _ _ _ _ _, HB3.out⟩
   ·rw [if_neg c2] at h
    have c3 : decide (n ≤ a1) = false := decide_eq_false c2
    obtain ⟨b, rfl⟩ : ∃ b : Nat, a1 = (b : Int) := ⟨a1.toNat, by omega⟩
    rw [Int.toNat_natCast] at h
    unfold impl_DiskRead.g at h
    split at h
    ·rename_i hg
     obtain rfl := Option.some.inj h
     have HG1 := Aside0.mk hg.1
     have HG2 := Aside0.mk hg.2.1
     have HG3 := Aside0.mk hg.2.2.1
     have HG4 := Aside0.mk hg.2.2.2
     clear h hg c1 c2
     go_enter Try.func18, Try.ntmps18
     go_wp2_with (first | ((with_reducible refine zt (N := 2) rfl ?_); refine Go.Proofs.YtejecjjimggjeaaH.box_arr (cs := #[.slice A0_0 l0_0.length c0_0, .slice A0_1 l0_1.length c0_1]) rfl (t := 35) rfl (N := 2) rfl rfl ?_; intro g1 hg1 w1 hA1 hb1; have HA1 := Aside0.mk hA1; have HB1 := Aside0.mk hb1; have hc10 : w1.cell? ⟨g1, 0, none⟩ = some (.slice A0_0 l0_0.length c0_0) := (zb HA1.out 0).trans rfl; have hc11 : w1.cell? ⟨g1, 1, none⟩ = some (.slice A0_1 l0_1.length c0_1) := (zb HA1.out 1).trans rfl; clear hA1 hb1 hg1) | ((with_reducible refine zo (f := 39) rfl ?_); refine zC (some 7) rfl rfl Try.func39 (by kernel_rfl) rfl #[.agg #[.slice A0_0 l0_0.length c0_0, .slice A0_1 l0_1.length c0_1]] rfl (by (try simp only [List.map_toArray, List.map_cons, List.map_nil]); first | done | rfl) ?_; refine (impl_ValidDisk.calls k A0_0 c0_0 l0_0 A0_1 c0_1 l0_1 _ w1 (Kd.C_below HR0.out HB1.out) HC0.out (Kd.C_below HR1.out HB1.out) HC1.out HVD.out).mono ?_; rintro e w2 ⟨rfl, hb2⟩; refine ⟨_, rfl, ?_⟩; have HA12 := Aside0.mk ((hb2.block _ (zr HA1.out)).trans HA1.out); have HB2 := Aside0.mk (zk HB1.out hb2); clear hb2 hc10 hc11; have hc10 : w2.cell? ⟨g1, 0, none⟩ = some (.slice A0_0 l0_0.length c0_0) := (zb HA12.out 0).trans rfl; have hc11 : w2.cell? ⟨g1, 1, none⟩ = some (.slice A0_1 l0_1.length c0_1) := (zb HA12.out 1).trans rfl) | ((with_reducible refine zo (f := 40) rfl ?_); (try (refine gate_guard (by rfl) ?_; dsimp only)); refine zC (some 16) rfl rfl Try.func40 (by kernel_rfl) rfl #[.agg #[.slice A0_0 l0_0.length c0_0, .slice A0_1 l0_1.length c0_1]] rfl (by (try simp only [List.map_toArray, List.map_cons, List.map_nil]); first | done | rfl) ?_; refine (impl_Disk_blocks.calls A0_0 c0_0 l0_0 A0_1 c0_1 l0_1 _ w2 (Kd.C_below HR0.out HB2.out) HC0.out (Kd.C_below HR1.out HB2.out) HC1.out HBL.out).mono ?_; rintro e w3 ⟨rfl, hb3⟩; refine ⟨_, rfl, ?_⟩; have HA13 := Aside0.mk ((hb3.block _ (zr HA12.out)).trans HA12.out); have HB3 := Aside0.mk (zk HB2.out hb3); clear hb3 hc10 hc11; have hc10 : w3.cell? ⟨g1, 0, none⟩ = some (.slice A0_0 l0_0.length c0_0) := (zb HA13.out 0).trans rfl; have hc11 : w3.cell? ⟨g1, 1, none⟩ = some (.slice A0_1 l0_1.length c0_1) := (zb HA13.out 1).trans rfl) | ((with_reducible refine zo (f := 41) rfl ?_); refine zC (some 20) rfl rfl Try.func41 (by kernel_rfl) rfl #[.agg #[.slice A0_0 l0_0.length c0_0, .slice A0_1 l0_1.length c0_1]] rfl (by (try simp only [List.map_toArray, List.map_cons, List.map_nil]); first | done | rfl) ?_; refine (spin_c w3 A0_0 c0_0 l0_0 A0_1 c0_1 l0_1 (Kd.C_below HR0.out HB3.out) HC0.out (Kd.C_below HR1.out HB3.out) HC1.out (pend_all HG4.out) HG1.out HG2.out).mono ?_; rintro e w4 ⟨gp, gy, gm, vD, vP, vK, rfl, hP, hb4⟩; refine ⟨_, rfl, ?_⟩; have HP := Aside0.mk hP; have HB4 := Aside0.mk (zk HB3.out hb4); clear hP hb4 hc10 hc11) | ((with_reducible refine zo (f := 47) rfl ?_); refine zC (some 22) rfl rfl Try.func47 (by kernel_rfl) rfl #[.pointer (some ⟨gp, 0, none⟩), .int .i64 (b : Int)] rfl (by (try simp only [List.map_toArray, List.map_cons, List.map_nil]); first | done | rfl) ?_; refine (read_c w4 _ _ gp l0_0 l0_1 (yng l0_1) gy gm vD vP vK b HP.out (Nat.le_refl _) HG3.out HG1.out).mono ?_; rintro e w5 ⟨rfl, hl5, hb5⟩; refine ⟨_, rfl, ?_⟩; have HL5 := Aside0.mk hl5; have HB5 := Aside0.mk (zk HB4.out hb5); clear hl5 hb5) | ((with_reducible refine zt (N := 5) rfl ?_); refine Go.Proofs.YtejecjjimggjeaaH.alloc_arr rfl (t := 76) rfl (N := 5) rfl (zs := (Array.replicate 64 (.int .u8 0))) (n := 64) (by kernel_rfl) ?_; intro g5 hg5 w6 hA5 hb6 _; have HA5 := Aside0.mk hA5; have HB6 := Aside0.mk (zk HB5.out hb6); have HGE5 := Aside0.mk ((by rw [hg5]; exact HB5.out.size) : w.heap.size ≤ g5); clear hA5 hb6 hg5) | (refine Go.Proofs.YtejecjjimggjeaaH.store_arr (g := g5) (cells := ((readP l0_0 (yng l0_1) b).map (Value.int .u8)).toArray) rfl (t := 76) rfl rfl rfl rfl HA5.out (by rw [arr_size HL5.out]; kernel_rfl) (by rw [arr_size HL5.out]; rfl) (arr_one _) ?_; intro w7 hA7 hg7; have HA7 := Aside0.mk hA7; have HB7 := Aside0.mk (zv HB6.out (some g5) HB6.out.size hg7 (fun k_ hk_ => by injection hk_ with hk_; exact hk_ ▸ HGE5.out)); clear hA7 hg7) | (refine Go.Proofs.YtejecjjimggjeaaH.slice_arr rfl (t := 76) (e := 5) (n := 64) rfl (N := 23) rfl rfl Try.underlying76 (by kernel_rfl) ?_))
     go_ret
     have h_ := Go.Proofs.YtejecjjimggjeaaH.R_of_arr (Value.int .u8) (fun _ => rfl) (ok := fun _ => True) HA7.out HGE5.out trivial (by rw [HL5.out]; omega) (by rw [HL5.out]; omega)
     rw [HL5.out] at h_
     exact ⟨_, rfl, h_, HB7.out⟩
    ·cases h

set_option maxRecDepth 100000 in
theorem copy_mid {W : World} {B gD cap off dl dcap m c : Nat} {ty : TypeId} {ok : Nat → Prop} {dur ys : List Int} {A : Option Addr} (h : (Kd.int .u8).R 5 W B ok (.slice (some ⟨gD, 0, none⟩) dur.length cap) dur) (hr : (Kd.int .u8).C W A m ys) (ho : off + min m dl ≤ dur.length) :
  ∃ w', (Builtin.copy_ #[22, 22] ty #[.slice (some ⟨gD, off, none⟩) dl dcap, .slice A m c]).run Try.prog W = .ok (goInt ((min m dl : Nat) : Int)) w' ∧ (Kd.int .u8).R 5 w' B ok (.slice (some ⟨gD, 0, none⟩) dur.length cap) (dur.take off ++ ys.take (min m dl) ++ dur.drop (off + min m dl)) ∧ W.grownBy w' (some gD) := by
 have ht := Try.underlying22
 have hinfo : (Try.prog.info? 5).map (·.size) = some 1 := by kernel_rfl
 have hR := Kd.reads_of_C (enc := Value.int .u8) (d := (0 : Int)) (h1 := fun _ => rfl) hr
 have hm : ys.length = m := hR.1
 have hown := Kd.own_of_R (enc := Value.int .u8) (h1 := fun _ => rfl) h
 rcases Nat.eq_zero_or_pos (min m dl) with h0 | hp
 ·refine ⟨W, ?_, by rw [h0, List.take_zero, List.append_nil, Nat.add_zero, List.take_append_drop]; exact h, World.grownBy.refl W _⟩
  rw [h0]
  exact run_copy_none W _ _ ty _ (some ⟨gD, off, none⟩) A dl dcap m c ht hinfo h0
 ·obtain ⟨ad, hA, hc⟩ := hR.2.2 (by omega)
  rcases hown.2 with ⟨hv, hx0⟩ | ⟨g, cap2, cur, hv, hb, hh, hnc, hcm, hcs, htake⟩
  ·cases hv
  ·injection hv with hv1 _ hv3
   injection hv1 with hv1
   injection hv1 with hv1
   subst hv1 hv3
   have hcs1 : cur.size = cap := by omega
   have hkl : (encs (Value.int .u8) (ys.take (min m dl))).length = min m dl := by rw [encs_length, List.length_take]; omega
   have hsrc : ∀ j u, (encs (Value.int .u8) (ys.take (min m dl)))[j]? = some u → W.cell? (ad.add j) = some u := by
    intro j u hu
    have hj : j < (ys.take (min m dl)).length := by
     rcases Nat.lt_or_ge j (ys.take (min m dl)).length with h | h
     ·exact h
     ·rw [List.getElem?_eq_none (by rw [encs_length]; exact h)] at hu
      cases hu
    have hjm : j < min m dl := by rw [List.length_take] at hj; omega
    rw [encs_get (d := (0 : Int)) _ j hj] at hu
    rw [hc j (by omega), ← hu]
    simp [List.getD_eq_getElem?_getD, hjm]
   have hrun := run_copy_cells (P := Try.prog) W 22 22 ty _ gD off dl dcap ad m c (encs (Value.int .u8) (ys.take (min m dl))) ht hinfo (by rw [hkl]) hsrc
    (fun j hj => by rw [cell_of_row W gD _ cur _ (0, 0) hh]; simp; omega) (fun j _ => zd hh _) (by intro u hu; simp only [encs, List.mem_map] at hu; obtain ⟨q, _, rfl⟩ := hu; rfl)
   obtain ⟨cur', h3, h4, h5⟩ := setCells_row (encs (Value.int .u8) (ys.take (min m dl))) off W cur hh (by rw [hkl]; omega)
   obtain ⟨s1, s2, s3, s4⟩ := setCells_same gD (encs (Value.int .u8) (ys.take (min m dl))) off W
   refine ⟨_, by rw [hA, hrun, hkl], Kd.R_of_own (enc := Value.int .u8) (h1 := fun _ => rfl) ?_ h.1, ⟨s1, s2, s3, by rw [s4]; exact Nat.le_refl _, fun k _ hk => setCells_far _ _ k (fun he => hk (by rw [he]))⟩⟩
   have hln : (dur.take off ++ ys.take (min m dl) ++ dur.drop (off + min m dl)).length = dur.length := by
    simp only [List.length_append, List.length_take, List.length_drop]
    omega
   rw [hln]
   refine ⟨by rw [encs_length, hln, Nat.mul_one], .inr ⟨gD, cap, cur', rfl, hb, h3, hnc, hcm, by rw [h4, hcs], ?_⟩⟩
   have htk : cur.toList.take dur.length = encs (Value.int .u8) dur := by rw [← htake, Nat.mul_one]
   have e1 : cur.toList.take off = encs (Value.int .u8) (dur.take off) := by
    have : (cur.toList.take dur.length).take off = cur.toList.take off := by rw [List.take_take]; congr 1; omega
    rw [← this, htk]; simp [encs, List.map_take]
   have e2 : (cur.toList.drop (off + min m dl)).take (dur.length - (off + min m dl)) = encs (Value.int .u8) (dur.drop (off + min m dl)) := by
    have : (cur.toList.take dur.length).drop (off + min m dl) = (cur.toList.drop (off + min m dl)).take (dur.length - (off + min m dl)) := by rw [List.drop_take]
    rw [← this, htk]; simp [encs, List.map_drop]
   rw [h5, hkl, e1, Nat.mul_one]
   have l1 : (encs (Value.int .u8) (dur.take off)).length = off := by rw [encs_length, List.length_take]; omega
   rw [List.take_append, List.take_of_length_le (by rw [List.length_append, l1, hkl]; omega), List.length_append, l1, hkl, e2, encs_append, encs_append]
set_option maxHeartbeats 4000000 in
set_option maxRecDepth 100000 in
theorem settled_c (W : World) (B s gp : Nat) (dur : List Int) (pend : List S45) (m : List (Int × List Int)) (gy gm : Nat) (vD vP vK : Value) (hP : Plat W B s gp dur pend m gy gm vD vP vK) (hs : s ≤ W.heap.size) :
  Calls Try.prog 72 #[.pointer (some ⟨gp, 0, none⟩)] W fun e w' => e = .returned (.tuple #[]) ∧ ∃ gy' gm', Plat w' B w'.heap.size gp dur [] [] gy' gm' vD (.slice none 0 0) (.slice none 0 0) ∧ Below B W w' ∧ Kept W w' (fun k => B ≤ k ∧ k < s) := by
 obtain ⟨A1, c1, e1⟩ := Kd.R_slice hP.rp
 subst e1
 have HP := Aside0.mk hP
 have HS := Aside0.mk hs
 clear hP hs
 go_enter Try.func72, Try.ntmps72
 go_wp2_with (first | ((with_reducible refine zo (f := 68) rfl ?_); refine zC (some 4) rfl rfl Try.func68 (by kernel_rfl) rfl #[] rfl (by (try simp only [List.map_toArray, List.map_cons, List.map_nil]); first | done | rfl) ?_; refine (newOrd_c W).mono ?_; rintro e w1 ⟨gy', gm', rfl, hgy, hgm, bo, bm, hb1⟩; refine ⟨_, rfl, ?_⟩; have HP1 := Aside0.mk (HP.out.below HS.out hb1); have HB1 := Aside0.mk hb1; have BO := Aside0.mk bo; have BM := Aside0.mk bm; have HGY := Aside0.mk hgy; have HGM := Aside0.mk hgm; have hc1 : w1.cell? ⟨gp, 1, none⟩ = some (.slice A1 pend.length c1) := (zb HP1.out.bp 1).trans rfl; have hf1 := zd HP1.out.bp 1; clear hb1 bo bm hgy hgm) | (refine store_event (t := 33) (p := 6) (v := ?vo_w2) (w1 := (w1.setCell ⟨gp, 1, none⟩ (.slice none 0 0))) ?hg ?ho ?hn ?hr ?_; (case ho => rfl); (case hg => rfl); (case hn => rfl); (case hr => first | (go_simp; done) | (go_simp; rfl)); intro w2 hw2; have BP2 : Aside0 (w2.heap[gp]? = some (.cells #[vD, .slice none 0 0, .pointer (some ⟨gy, 0, none⟩)] 97 (0, 0))) := ⟨by rw [hw2]; exact zz HP1.out.bp 1 _ rfl⟩; have hset1 : ∀ k, k ≠ gp → w2.heap[k]? = w1.heap[k]? := (by intro k hk_; rw [hw2]; exact Below.heap_setCell w1 ⟨gp, 1, none⟩ _ k hk_); have hsz1 : w2.heap.size = w1.heap.size := (by rw [hw2]; simp); have HW2 := Aside0.mk hw2; have HSET1 := Aside0.mk hset1; have HSZ1 := Aside0.mk hsz1; clear hc1 hf1 hw2 hset1 hsz1; have hc2 : w2.cell? ⟨gp, 2, none⟩ = some (.pointer (some ⟨gy, 0, none⟩)) := (zb BP2.out 2).trans rfl; have hf2 := zd BP2.out 2) | ((with_reducible refine gate_store (t := 94) (p := 8) rfl ?_); refine store_event (t := 94) (p := 8) (v := ?vo_w3) (w1 := (w2.setCell ⟨gp, 2, none⟩ (.pointer (some ⟨gy', 0, none⟩)))) ?hg ?ho ?hn ?hr ?_; (case ho => rfl); (case hg => rfl); (case hn => rfl); (case hr => first | (go_simp; done) | (go_simp; rfl)); intro w3 hw3; have BP3 : Aside0 (w3.heap[gp]? = some (.cells #[vD, .slice none 0 0, .pointer (some ⟨gy', 0, none⟩)] 97 (0, 0))) := ⟨by rw [hw3]; exact zz BP2.out 2 _ rfl⟩; have hset2 : ∀ k, k ≠ gp → w3.heap[k]? = w2.heap[k]? := (by intro k hk_; rw [hw3]; exact Below.heap_setCell w2 ⟨gp, 2, none⟩ _ k hk_); have hsz2 : w3.heap.size = w2.heap.size := (by rw [hw3]; simp); have HW3 := Aside0.mk hw3; have HSET2 := Aside0.mk hset2; have HSZ2 := Aside0.mk hsz2; clear hc2 hf2 hw3 hset2 hsz2))
 go_end0
 have hP1 := HP1.out
 have hk : ∀ k, k ≠ gp → w3.heap[k]? = w1.heap[k]? := fun k hk_ => (HSET2.out k hk_).trans (HSET1.out k hk_)
 have hsz : w3.heap.size = w1.heap.size := HSZ2.out.trans HSZ1.out
 have typed : ∀ k q cells, w1.heap[k]? = some (.cells cells q (0, 0)) → q ≠ 97 → k ≠ gp := fun k q cells hc hq e_ => by
  rw [e_, hP1.bp] at hc; injection hc with hc; injection hc with _ hc; exact hq hc.symm
 refine ⟨rfl, gy', gm', ⟨BP3.out, ?_, ?_, ?_, Kd.R_nil _ _ _ _ _, Kd.R_nil _ _ _ _ _, ⟨hP1.pp.1, by have := hP1.pp.2; have := HS.out; have := HB1.out.size; omega⟩, ⟨by have := HGY.out; have := hP1.pp; have := HS.out; omega, by rw [hsz]; exact zr BO.out⟩, ⟨by have := HGM.out; have := hP1.pp; have := HS.out; omega, by rw [hsz]; exact BM.out.lt⟩, fun p hp_ => by cases hp_⟩, ?_, ?_⟩
 ·exact (hk _ (typed _ _ _ BO.out (by decide))).trans BO.out
 ·exact BM.out.move (hk _ (fun e_ => ne_map hP1.bp BM.out (by rw [e_])))
 ·refine Kd.R_mono (Kd.R_move (Kd.R_bound hP1.rd) (fun k hk_ => ?_)) (fun k hk_ => by have := hk_.1; have := HS.out; have := HB1.out.size; omega)
  obtain ⟨_, _, hlt, q, hq, cells, hc⟩ := hk_
  have hq' : q = 5 := by simpa using (show q ∈ [5] from hq)
  subst hq'
  exact hk k (typed _ _ _ hc (by decide))
 ·rw [HW3.out, HW2.out]
  exact Below.setCell (Below.setCell (below_then (Below.refl B W) (by have := hP1.pp; have := HS.out; omega) HB1.out) hP1.pp.1 _) hP1.pp.1 _
 ·rw [HW3.out, HW2.out]
  exact Kept.setCell (Kept.setCell (Kept.of_below HB1.out _) (.inl hP1.pp) _) (.inl hP1.pp) _
def put1 (dur : List Int) (b : Nat) (data : List Int) (c : Nat) : List Int := dur.take (64 * b) ++ data.take c ++ dur.drop (64 * b + c)
def chI (ch : List Int) (i : Nat) : Int := let c := if (i : Int) < (ch.length : Int) then rd ch i else 0; if c < 0 then 64 else if c > 64 then 64 else c
theorem chI_le (ch : List Int) (i : Nat) : 0 ≤ chI ch i ∧ chI ch i ≤ 64 := by
 unfold chI
 simp only
 generalize (if (i : Int) < (ch.length : Int) then rd ch i else 0) = c
 by_cases h1 : c < 0
 ·rw [if_pos h1]; omega
 ·rw [if_neg h1]
  by_cases h2 : c > 64
  ·rw [if_pos h2]; omega
  ·rw [if_neg h2]; omega
def crashD (dur : List Int) (pend : List S45) (ch : List Int) : Nat → List Int
 | 0 => dur
 | i + 1 => put1 (crashD dur pend ch i) (rd_T45 pend (i : Int)).f0.toNat (rd_T45 pend (i : Int)).f1 (chI ch i).toNat
theorem put1_len {dur : List Int} {b : Nat} {data : List Int} {c : Nat} (hb : 64 * b + 64 ≤ dur.length) (hc : c ≤ 64) (hd : data.length = 64) : (put1 dur b data c).length = dur.length := by
 unfold put1
 simp only [List.length_append, List.length_take, List.length_drop]
 omega
theorem crashD_len {dur : List Int} {pend : List S45} {ch : List Int} (hv : ∀ i : Nat, i < pend.length → (rd_T45 pend (i : Int)).f1.length = 64) (hb : ∀ i : Nat, i < pend.length → 0 ≤ (rd_T45 pend (i : Int)).f0 ∧ 64 * (rd_T45 pend (i : Int)).f0 + 64 ≤ dur.length) : ∀ i, i ≤ pend.length → (crashD dur pend ch i).length = dur.length := by
 intro i
 induction i with
 | zero => intro _; rfl
 | succ i ih =>
  intro hi
  have h1 := ih (by omega)
  have h2 := hb i (by omega)
  have h3 := chI_le ch i
  simp only [crashD]
  rw [put1_len (by rw [h1]; omega) (by omega) (hv i (by omega)), h1]
theorem Plat.afterCopy {W w' : World} {B s gp gD cap : Nat} {dur dur' : List Int} {pend : List S45} {m : List (Int × List Int)} {gy gm : Nat} {vP vK : Value} (h : Plat W B s gp dur pend m gy gm (.slice (some ⟨gD, 0, none⟩) dur.length cap) vP vK) (hl : dur'.length = dur.length) (hr : (Kd.int .u8).R 5 w' B (fun k => k < s) (.slice (some ⟨gD, 0, none⟩) dur.length cap) dur') (hg : W.grownBy w' (some gD)) (hs : s ≤ W.heap.size) : Plat w' B s gp dur' pend m gy gm (.slice (some ⟨gD, 0, none⟩) dur.length cap) vP vK := by
 obtain ⟨cD, hcD⟩ := Kd.R_typed h.rd gD rfl
 have ne : ∀ k q cells, W.heap[k]? = some (.cells cells q (0, 0)) → q ≠ 5 → some k ≠ some gD := fun k q cells hc hq e_ => by
  injection e_ with e_
  rw [e_, hcD] at hc; injection hc with hc; injection hc with _ hc; exact hq hc.symm
 exact {
  bp := (hg.block _ (zr h.bp) (ne _ _ _ h.bp (by decide))).trans h.bp
  bo := (hg.block _ (zr h.bo) (ne _ _ _ h.bo (by decide))).trans h.bo
  bm := h.bm.move (hg.block _ h.bm.lt (fun e_ => ne_map hcD h.bm (by rw [e_])))
  rd := hr
  rp := Kd.R_mono (Kd.R_move (Kd.R_bound h.rp) (fun k hk => hg.block k hk.2.2.1 (fun e_ => hk.1.2 e_))) (fun k hk => hk.1)
  rk := Kd.R_mono (Kd.R_move (Kd.R_bound h.rk) (fun k hk => by
   obtain ⟨_, _, hlt, q, hq, cells, hc⟩ := hk
   have hq' : q = 2 := by simpa using (show q ∈ [2] from hq)
   subst hq'
   exact hg.block k hlt (ne _ _ _ hc (by decide)))) (fun k hk => hk.1)
  pp := h.pp
  po := h.po
  pm := h.pm
  m64 := h.m64 }
theorem run_hi {o : Oper} {a : Act} {x y : Operand} {w : World} {A : Option Addr} {n cap : Nat} {h : Int} (ho : o.op = .slice 22 x none (some y) none) (hx : a.eval x = .slice A n cap) (hy : a.eval y = .int .i64 h) (h0 : 0 ≤ h) (h1 : h ≤ n) (hc : n ≤ cap) : (execOp a.eval o).run Try.prog w = .ok (.value (.slice A h.toNat cap)) w := by
 obtain ⟨i, hi, hz⟩ := Option.map_eq_some_iff.1 (show (Try.prog.info? 5).map (·.size) = some 1 by kernel_rfl)
 unfold execOp
 have hel : Try.prog.elem 22 = 5 := by simp [Program.elem, Try.underlying22]
 have hu : Try.prog.underlying 22 = some (.slice (Try.prog.elem 22)) := by rw [hel]; exact Try.underlying22
 have hz0 : (A.map (·.add 0)) = A := by cases A with | none => rfl | some ad => cases ad; rfl
 simp only [ho, hx, hy, Option.map_some, Option.map_none]
 simp [run_sliceAt_slice w 22 _ _ _ _ hu, run_slice_h w 22 A n cap hu .i64 h h0 (by omega), hel, sizeOf, typeInfo, hi, hz, sliced]
 intro _; exact hz0
theorem exec_copy {o : Oper} {a : Act} {d s : Operand} {w w' : World} {v u v' : Value} (ho : o.op = .call { callee := .builtin .copy, args := #[d, s], argTypes := #[22, 22] }) (hd : a.eval d = v) (hs : a.eval s = u) (hr : (Builtin.copy_ #[22, 22] o.type #[v, u]).run Try.prog w = .ok v' w') : (execOp a.eval o).run Try.prog w = .ok (.value v') w' := by
 unfold execOp
 simp only [ho, resolve, invoke, builtin, Sem.run_bind, Sem.run_pure, Result.andThen_ok, List.map_toArray, List.map_cons, List.map_nil, hd, hs, hr]
set_option maxHeartbeats 8000000 in
set_option maxRecDepth 100000 in
theorem crash_c (W0 W : World) (s gp : Nat) (dur : List Int) (pend : List S45) (m : List (Int × List Int)) (gy gm : Nat) (vD vP vK : Value) (A2 : Option Addr) (c2 : Nat) (ch : List Int) (hP : Plat W W0.heap.size s gp dur pend m gy gm vD vP vK) (hs : s ≤ W.heap.size) (hB : Below W0.heap.size W0 W) (hr2 : (Kd.int .i64).C W0 A2 ch.length ch) (hc2 : ch.length ≤ c2)
  (hv : ∀ i : Nat, i < pend.length → (rd_T45 pend (i : Int)).f1.length = 64) (hb : ∀ i : Nat, i < pend.length → 0 ≤ (rd_T45 pend (i : Int)).f0 ∧ 64 * (rd_T45 pend (i : Int)).f0 + 64 ≤ dur.length) (hd0 : 0 < dur.length) (hdl : dur.length ≤ 100000000) (hpl : pend.length ≤ 1000000) :
  Calls Try.prog 48 #[.pointer (some ⟨gp, 0, none⟩), .slice A2 ch.length c2] W fun e w' => e = .returned (.tuple #[]) ∧ ∃ gy' gm', Plat w' W0.heap.size w'.heap.size gp (crashD dur pend ch pend.length) [] [] gy' gm' vD (.slice none 0 0) (.slice none 0 0) ∧ Below W0.heap.size W0 w' ∧ Kept W w' (fun k => W0.heap.size ≤ k ∧ k < s) := by
 obtain ⟨gD, cap, e0, _, _, _⟩ := Kd.R_form hP.rd hd0
 subst e0
 obtain ⟨A1, c1, e1⟩ := Kd.R_slice hP.rp
 subst e1
 have HP0 := Aside0.mk hP
 have HS0 := Aside0.mk hs
 have HB0 := Aside0.mk hB
 have HR2 := Aside0.mk hr2
 have HC2 := Aside0.mk hc2
 have HV := Aside0.mk hv
 have HBD := Aside0.mk hb
 have HDL := Aside0.mk hdl
 have HPL := Aside0.mk hpl
 have HK0 := Aside0.mk (Kept.refl W (fun k => W0.heap.size ≤ k ∧ k < s))
 clear hP hs hB hr2 hc2 hv hb hdl hpl
 have hcp1 : W.cell? ⟨gp, 1, none⟩ = some (.slice A1 pend.length c1) := (zb HP0.out.bp 1).trans rfl
 go_enter Try.func48, Try.ntmps48
 go_wp2
 clear hcp1
 go_loopg [12] pend.length (fun kq v12 w' => ∃ (x : Int) (i : Nat), v12 = .int .i64 x ∧ Aside0 (x = (i : Int)) ∧ Aside0 (i + kq = pend.length) ∧ Aside0 (Plat w' W0.heap.size s gp (crashD dur pend ch i) pend m gy gm (.slice (some ⟨gD, 0, none⟩) dur.length cap) (.slice A1 pend.length c1) vK) ∧ Aside0 (Below W0.heap.size W0 w') ∧ Aside0 (s ≤ w'.heap.size) ∧ Aside0 (Kept W w' (fun k => W0.heap.size ≤ k ∧ k < s)))
 case atStart => exact ⟨0, 0, rfl, ⟨rfl⟩, ⟨by omega⟩, HP0, HB0, HS0, HK0⟩
 case round =>
  clear HP0 HS0 HB0 HK0
  obtain ⟨x, i, rfl, HX, HK, HP, HB, HS, HKP⟩ := hrel
  cases gk with
  | zero =>
   have hi : i = pend.length := by have := HK.out; omega
   subst hi
   have hx : x = (pend.length : Int) := HX.out
   clear HX
   subst hx
   have hlt : decide ((pend.length : Int) < (pend.length : Int)) = false := decide_eq_false (by omega)
   go_wp2_with ((with_reducible refine zo (f := 72) rfl ?_); refine zC (some 42) rfl rfl Try.func72 (by kernel_rfl) rfl #[.pointer (some ⟨gp, 0, none⟩)] rfl (by (try simp only [List.map_toArray, List.map_cons, List.map_nil]); first | done | rfl) ?_; refine (settled_c wr W0.heap.size s gp _ pend m gy gm _ _ vK HP.out HS.out).mono ?_; rintro e w2 ⟨rfl, gy', gm', hP2, hb2, hk2⟩; refine ⟨_, rfl, ?_⟩; have HP2 := Aside0.mk hP2; have HB2 := Aside0.mk (HB.out.trans hb2); have HK2 := Aside0.mk (HKP.out.then_ hk2 (fun _ h_ => .inl h_)); clear hP2 hb2 hk2)
   go_end0
   exact ⟨rfl, gy', gm', HP2.out, HB2.out, HK2.out⟩
  | succ k2 =>
   have p0 : (0 : Int) ≤ x := by have := HX.out; omega
   have q0 : x < (pend.length : Int) := by have := HK.out; have := HX.out; omega
   have hi : i < pend.length := by have := HK.out; omega
   have hlt : decide (x < (pend.length : Int)) = true := decide_eq_true q0
   obtain ⟨ad, A, c, e1, hx0, hx1, hl1, hi1⟩ := at_T45 (Kd.R_reads' HP.out.rp).2.2 x p0 q0
   cases e1
   have HI1 := Aside0.mk hi1
   have HL1 := Aside0.mk hl1
   have h64 : (rd_T45 pend x).f1.length = 64 := by rw [HX.out]; exact HV.out i hi
   have H64 := Aside0.mk h64
   have HIL := Aside0.mk hi
   have HBi := Aside0.mk (HBD.out i hi)
   have HCL := Aside0.mk (crashD_len (ch := ch) HV.out HBD.out i (by omega))
   have HCD : Aside0 (crashD dur pend ch (i + 1) = put1 (crashD dur pend ch i) (rd_T45 pend x).f0.toNat (rd_T45 pend x).f1 (chI ch i).toNat) := ⟨by rw [HX.out]; rfl⟩
   rw [← HX.out] at HBi
   clear hi1 hl1 h64 hi
   obtain ⟨row, hrow⟩ : ∃ r_, r_ = rd_T45 pend x := ⟨_, rfl⟩
   rw [← hrow] at hx0 hx1 HI1 HL1 H64 HBi HCD
   clear hrow
   obtain ⟨rb0, rl⟩ := row
   simp only at hx0 hx1 HI1 HL1 H64 HBi HCD
   obtain ⟨rb, rfl⟩ : ∃ n : Nat, rb0 = (n : Int) := ⟨rb0.toNat, by have := HBi.out.1; omega⟩
   rw [Int.toNat_natCast] at HCD
   obtain ⟨dd, hdd⟩ : ∃ d_, d_ = crashD dur pend ch i := ⟨_, rfl⟩
   rw [← hdd] at HCD HCL HP
   clear hdd
   replace p0 := eq_true p0
   replace q0 := eq_true q0
   obtain ⟨cc, hcc⟩ : ∃ c_, c_ = chI ch i := ⟨_, rfl⟩
   have HCC := Aside0.mk hcc
   have HCB : Aside0 (0 ≤ cc ∧ cc ≤ 64) := ⟨by rw [hcc]; exact chI_le ch i⟩
   rw [← hcc] at HCD
   clear hcc
   by_cases b1 : x < (ch.length : Int)
   ·have b1b : decide (x < (ch.length : Int)) = true := decide_eq_true b1
    obtain ⟨ad2, e2, hx2⟩ := Kd.at_int HR2.out x (by have := HX.out; omega) b1
    cases e2
    have HXC := Aside0.mk hx2
    clear hx2
    have b1t := eq_true b1
    by_cases b2 : rd ch x < 0
    ·have b2b : decide (rd ch x < 0) = true := decide_eq_true b2
     have hcv : cc = 64 := by rw [HCC.out]; unfold chI; rw [← HX.out]; simp only; rw [if_pos b1, if_pos b2]
     clear b1 b2
     have HCV := Aside0.mk hcv
     clear hcv
     go_wp2_with (first | ((with_reducible refine zt (N := 5) rfl ?_); refine Go.Proofs.YtejecjjimggjeaaH.alloc_arr rfl (t := 45) rfl (N := 5) rfl (zs := #[.int .i64 0, .slice none 0 0]) (n := 2) (by kernel_rfl) ?_; intro g5 hg5 w5 hA5 hb5 _; have HBR5 := Aside0.mk hb5; have HA5 := Aside0.mk hA5; have HG5 := Aside0.mk (show wr.heap.size ≤ g5 by (rw [hg5]; exact Nat.le_refl _)); clear hA5 hg5 hb5) | (refine Go.Proofs.YtejecjjimggjeaaH.store_arr (g := g5) (cells := #[.int .i64 (rb : Int), .slice A rl.length c]) rfl (t := 45) rfl rfl rfl rfl HA5.out (by kernel_rfl) rfl (by kernel_rfl) ?_; intro w6 hA56 hg6_; have HA56 := Aside0.mk hA56; have HBR6 := Aside0.mk (zv HBR5.out (some g5) HBR5.out.size hg6_ (fun k_ hk_ => by injection hk_ with hk_; rw [← hk_]; exact HG5.out)); (try have hx2 := ((zk HB.out HBR6.out).cell (World.block_lt_of_cell? W0 _ HXC.out)).trans HXC.out); clear hA56 hg6_))
     refine start_ (n := 9) (S := fun w' => w'.cell? ⟨g5, 0, none⟩ = some (.int .i64 (rb : Int)) ∧ w'.cell? ⟨g5, 1, none⟩ = some (.slice A rl.length c)) (ds := []) #[false, false, false, false, false, false, false, false, false] (by kernel_rfl) rfl rfl ⟨(zb (zg HA56.out) 0).trans rfl, (zb (zg HA56.out) 1).trans rfl⟩ (fun hHeld => ?_)
     have HBR7 := Aside0.mk (below_drew HBR6.out); have HA57 := Aside0.mk (zg HA56.out); generalize w6.drew = w7 at HBR7 HA57 hHeld ⊢
     refine zA (i := 0) (N := some 31) (v := ?_) (a' := ?_) #[true, false, false, false, false, false, false, false, false] rfl rfl (by kernel_rfl) (fun _ _ _ h => h) (Or.inl ⟨by rfl, ?_⟩) ?_ ?_
     rotate_left
     ·intro w'
      go_simp
      with_reducible rfl
     rotate_left
     ·simp only [Act.put, List.setIfInBounds_toArray, List.set_cons_zero, List.set_cons_succ, zp, zq]
      rfl
     refine zA (i := 1) (N := some 32) (v := ?_) (a' := ?_) #[true, true, false, false, false, false, false, false, false] rfl rfl (by kernel_rfl) (fun _ _ _ h => h) (Or.inl ⟨by rfl, ?_⟩) ?_ ?_
     rotate_left
     ·intro w'
      go_simp
      with_reducible rfl
     rotate_left
     ·simp only [Act.put, List.setIfInBounds_toArray, List.set_cons_zero, List.set_cons_succ, zp, zq]
      rfl
     refine zA (i := 4) (N := some 35) (v := ?_) (a' := ?_) #[true, true, false, false, true, false, false, false, false] rfl rfl (by kernel_rfl) (fun _ _ _ h => h) (Or.inl ⟨by rfl, ?_⟩) ?_ ?_
     rotate_left
     ·intro w'
      go_simp
      with_reducible rfl
     rotate_left
     ·simp only [Act.put, List.setIfInBounds_toArray, List.set_cons_zero, List.set_cons_succ, zp, zq]
      rfl
     refine zA (i := 6) (N := some 37) (v := ?_) (a' := ?_) #[true, true, false, false, true, false, true, false, false] rfl rfl (by kernel_rfl) (fun _ _ _ h => h) (Or.inl ⟨by rfl, ?_⟩) ?_ ?_
     rotate_left
     ·intro w'
      go_simp
      with_reducible rfl
     rotate_left
     ·simp only [Act.put, List.setIfInBounds_toArray, List.set_cons_zero, List.set_cons_succ, zp, zq]
      rfl
     refine take_ (i := 2) (N := some 33) (v := ?_) (a' := ?_) #[true, true, true, false, true, false, true, false, false] rfl rfl (by kernel_rfl) (fun _ _ _ h => h) (Or.inl ⟨by rfl, ?_⟩) hHeld ?_ ?_
     rotate_left
     ·rintro w' ⟨s0, s1⟩
      go_simp
      with_reducible rfl
     rotate_left
     ·simp only [Act.put, List.setIfInBounds_toArray, List.set_cons_zero, List.set_cons_succ, zp, zq]
      rfl
     refine take_ (i := 5) (N := some 36) (v := ?_) (a' := ?_) #[true, true, true, false, true, true, true, false, false] rfl rfl (by kernel_rfl) (fun _ _ _ h => h) (Or.inl ⟨by rfl, ?_⟩) hHeld ?_ ?_
     rotate_left
     ·rintro w' ⟨s0, s1⟩
      go_simp
      with_reducible rfl
     rotate_left
     ·simp only [Act.put, List.setIfInBounds_toArray, List.set_cons_zero, List.set_cons_succ, zp, zq]
      rfl
     refine zA (i := 7) (N := some 38) (v := .slice A (64 : Int).toNat c) (a' := ?_) #[true, true, true, false, true, true, true, true, false] rfl rfl (by kernel_rfl) (fun _ _ _ h => h) (Or.inl ⟨by rfl, ?_⟩) ?_ ?_
     ·intro w'
      exact run_hi (h := (64 : Int)) (by rfl) (by rfl) (by rfl) (by have := HCB.out; have := HCV.out; omega) (by have := HCB.out; have := HCV.out; have := H64.out; omega) HL1.out
     rotate_left
     ·simp only [Act.put, List.setIfInBounds_toArray, List.set_cons_zero, List.set_cons_succ, zp, zq]
      rfl
     refine one_ (i := 3) (N := some 34) #[true, true, true, true, true, true, true, true, false] rfl rfl (by kernel_rfl) (by decide) (fun K hK => ?_)
     refine goes_ Try.func71 (by kernel_rfl) rfl #[.pointer (some ⟨gp, 0, none⟩), .int .i64 (rb : Int)] (by rfl) rfl rfl (by (try simp only [List.map_toArray, List.map_cons, List.map_nil]); first | done | rfl) ?_
     refine (place_c w7 W0.heap.size s gp dd pend m gy gm _ _ vK rb (HP.out.below HS.out HBR7.out) (by have := HBi.out; have := HCL.out; omega) (by have := HDL.out; have := HCL.out; omega)).mono ?_
     rintro e w8 ⟨gD2, cap2, hvD, hcap, rfl, rfl⟩
     injection hvD with e1_ e2_ e3_
     injection e1_ with e1_
     injection e1_ with e1_
     subst e1_ e3_
     clear e2_ hcap
     refine ⟨_, rfl, ?_⟩
     refine hK.out _ _ ⟨(zb HA57.out 0).trans rfl, (zb HA57.out 1).trans rfl⟩ (fun hHeld => ?_)
     clear hK K
     refine norm_ (a' := ?_) ?_ ?_
     rotate_left
     ·show Act.put _ (some 34) _ = _
      simp only [Act.put, List.setIfInBounds_toArray, List.set_cons_zero, List.set_cons_succ, zp, zq]
      rfl
     refine one_ (i := 8) (N := some 39) #[true, true, true, true, true, true, true, true, true] rfl rfl (by kernel_rfl) (by decide) (fun K hK => ?_)
     have hP7 := HP.out.below HS.out HBR7.out
     rw [← HCL.out] at hP7
     have hbd_ := HBi.out
     have hcb_ := HCB.out
     have hcl_ := HCL.out
     have hcv_ := HCV.out
     have hct_ := Kd.C_take (Kd.C_below HI1.out HBR7.out) (m := (64 : Int).toNat) (by have := H64.out; omega)
     have hlt_ : (rl.take (64 : Int).toNat).length = (64 : Int).toNat := by (have := H64.out; rw [List.length_take]; omega)
     rw [hlt_] at hct_
     obtain ⟨w9, hrun, hR9, hg9⟩ := copy_mid (ty := 3) (off := 64 * rb) (dl := 64) (dcap := cap - 64 * rb) (c := c) hP7.rd hct_ (by omega)
     refine value_ (w1 := w9) (v := _) (by rfl) rfl (exec_copy (by rfl) (by rfl) (by rfl) hrun) ?_
     have hput : dd.take (64 * rb) ++ (rl.take (64 : Int).toNat).take (min (64 : Int).toNat 64) ++ dd.drop (64 * rb + min (64 : Int).toNat 64) = put1 dd rb rl cc.toNat := by
      rw [hcv_, show min (64 : Int).toNat 64 = (64 : Int).toNat by omega, List.take_take, Nat.min_self]; rfl
     rw [hput] at hR9
     have hP9 := hP7.afterCopy (put1_len (by omega) (by omega) H64.out) hR9 hg9 (Nat.le_trans HS.out HBR7.out.size)
     rw [HCL.out, ← HCD.out] at hP9
     have HPN := Aside0.mk hP9
     have HBN := Aside0.mk (zv (zk HB.out HBR7.out) (some gD) (zk HB.out HBR7.out).size hg9 (fun k_ hk_ => Kd.R_base hP7.rd k_ hk_))
     have HSN := Aside0.mk (Nat.le_trans (Nat.le_trans HS.out HBR7.out.size) hg9.size)
     have HKN := Aside0.mk (Kept.of_grown hg9 (HKP.out.below HBR7.out) (fun k_ hk_ => .inl ⟨Kd.R_base hP7.rd k_ hk_, hP7.rd.1 k_ hk_⟩))
     have ne5 : some g5 ≠ some gD := fun e_ => by injection e_ with e_; have h1_ := hP7.rd.1 gD rfl; have h2_ := HG5.out; have h3_ := HS.out; omega
     have HA59 := Aside0.mk (zD HA57.out hg9 ne5)
     clear hct_ hlt_ hP7 hbd_ hcb_ hcl_ hcv_ hrun hR9 hg9 hput hP9 ne5
     refine hK.out _ _ ⟨(zb HA59.out 0).trans rfl, (zb HA59.out 1).trans rfl⟩ (fun hHeld => ?_)
     clear hK K
     refine norm_ (a' := ?_) ?_ ?_
     rotate_left
     ·show Act.put _ (some 39) _ = _
      simp only [Act.put, List.setIfInBounds_toArray, List.set_cons_zero, List.set_cons_succ, zp, zq]
      rfl
     refine done_ (by kernel_rfl) ?_
     try go_wp2
     go_roundg k2
     case measure => omega
     case rel =>
      refine ⟨_, i + 1, rfl, ⟨?_⟩, ⟨by have := HK.out; omega⟩, HPN, HBN, HSN, HKN⟩
      have := HX.out
      have := HIL.out
      have := HPL.out
      unfold wrap64
      omega
    ·have b2b : decide (rd ch x < 0) = false := decide_eq_false b2
     by_cases b3 : rd ch x > 64
     ·have b3b : decide (64 < rd ch x) = true := decide_eq_true b3
      have hcv : cc = 64 := by rw [HCC.out]; unfold chI; rw [← HX.out]; simp only; rw [if_pos b1, if_neg b2, if_pos b3]
      clear b1 b2 b3
      have HCV := Aside0.mk hcv
      clear hcv
      go_wp2_with (first | ((with_reducible refine zt (N := 5) rfl ?_); refine Go.Proofs.YtejecjjimggjeaaH.alloc_arr rfl (t := 45) rfl (N := 5) rfl (zs := #[.int .i64 0, .slice none 0 0]) (n := 2) (by kernel_rfl) ?_; intro g5 hg5 w5 hA5 hb5 _; have HBR5 := Aside0.mk hb5; have HA5 := Aside0.mk hA5; have HG5 := Aside0.mk (show wr.heap.size ≤ g5 by (rw [hg5]; exact Nat.le_refl _)); clear hA5 hg5 hb5) | (refine Go.Proofs.YtejecjjimggjeaaH.store_arr (g := g5) (cells := #[.int .i64 (rb : Int), .slice A rl.length c]) rfl (t := 45) rfl rfl rfl rfl HA5.out (by kernel_rfl) rfl (by kernel_rfl) ?_; intro w6 hA56 hg6_; have HA56 := Aside0.mk hA56; have HBR6 := Aside0.mk (zv HBR5.out (some g5) HBR5.out.size hg6_ (fun k_ hk_ => by injection hk_ with hk_; rw [← hk_]; exact HG5.out)); (try have hx2 := ((zk HB.out HBR6.out).cell (World.block_lt_of_cell? W0 _ HXC.out)).trans HXC.out); clear hA56 hg6_))
      refine start_ (n := 9) (S := fun w' => w'.cell? ⟨g5, 0, none⟩ = some (.int .i64 (rb : Int)) ∧ w'.cell? ⟨g5, 1, none⟩ = some (.slice A rl.length c)) (ds := []) #[false, false, false, false, false, false, false, false, false] (by kernel_rfl) rfl rfl ⟨(zb (zg HA56.out) 0).trans rfl, (zb (zg HA56.out) 1).trans rfl⟩ (fun hHeld => ?_)
      have HBR7 := Aside0.mk (below_drew HBR6.out); have HA57 := Aside0.mk (zg HA56.out); generalize w6.drew = w7 at HBR7 HA57 hHeld ⊢
      refine zA (i := 0) (N := some 31) (v := ?_) (a' := ?_) #[true, false, false, false, false, false, false, false, false] rfl rfl (by kernel_rfl) (fun _ _ _ h => h) (Or.inl ⟨by rfl, ?_⟩) ?_ ?_
      rotate_left
      ·intro w'
       go_simp
       with_reducible rfl
      rotate_left
      ·simp only [Act.put, List.setIfInBounds_toArray, List.set_cons_zero, List.set_cons_succ, zp, zq]
       rfl
      refine zA (i := 1) (N := some 32) (v := ?_) (a' := ?_) #[true, true, false, false, false, false, false, false, false] rfl rfl (by kernel_rfl) (fun _ _ _ h => h) (Or.inl ⟨by rfl, ?_⟩) ?_ ?_
      rotate_left
      ·intro w'
       go_simp
       with_reducible rfl
      rotate_left
      ·simp only [Act.put, List.setIfInBounds_toArray, List.set_cons_zero, List.set_cons_succ, zp, zq]
       rfl
      refine zA (i := 4) (N := some 35) (v := ?_) (a' := ?_) #[true, true, false, false, true, false, false, false, false] rfl rfl (by kernel_rfl) (fun _ _ _ h => h) (Or.inl ⟨by rfl, ?_⟩) ?_ ?_
      rotate_left
      ·intro w'
       go_simp
       with_reducible rfl
      rotate_left
      ·simp only [Act.put, List.setIfInBounds_toArray, List.set_cons_zero, List.set_cons_succ, zp, zq]
       rfl
      refine zA (i := 6) (N := some 37) (v := ?_) (a' := ?_) #[true, true, false, false, true, false, true, false, false] rfl rfl (by kernel_rfl) (fun _ _ _ h => h) (Or.inl ⟨by rfl, ?_⟩) ?_ ?_
      rotate_left
      ·intro w'
       go_simp
       with_reducible rfl
      rotate_left
      ·simp only [Act.put, List.setIfInBounds_toArray, List.set_cons_zero, List.set_cons_succ, zp, zq]
       rfl
      refine take_ (i := 2) (N := some 33) (v := ?_) (a' := ?_) #[true, true, true, false, true, false, true, false, false] rfl rfl (by kernel_rfl) (fun _ _ _ h => h) (Or.inl ⟨by rfl, ?_⟩) hHeld ?_ ?_
      rotate_left
      ·rintro w' ⟨s0, s1⟩
       go_simp
       with_reducible rfl
      rotate_left
      ·simp only [Act.put, List.setIfInBounds_toArray, List.set_cons_zero, List.set_cons_succ, zp, zq]
       rfl
      refine take_ (i := 5) (N := some 36) (v := ?_) (a' := ?_) #[true, true, true, false, true, true, true, false, false] rfl rfl (by kernel_rfl) (fun _ _ _ h => h) (Or.inl ⟨by rfl, ?_⟩) hHeld ?_ ?_
      rotate_left
      ·rintro w' ⟨s0, s1⟩
       go_simp
       with_reducible rfl
      rotate_left
      ·simp only [Act.put, List.setIfInBounds_toArray, List.set_cons_zero, List.set_cons_succ, zp, zq]
       rfl
      refine zA (i := 7) (N := some 38) (v := .slice A (64 : Int).toNat c) (a' := ?_) #[true, true, true, false, true, true, true, true, false] rfl rfl (by kernel_rfl) (fun _ _ _ h => h) (Or.inl ⟨by rfl, ?_⟩) ?_ ?_
      ·intro w'
       exact run_hi (h := (64 : Int)) (by rfl) (by rfl) (by rfl) (by have := HCB.out; have := HCV.out; omega) (by have := HCB.out; have := HCV.out; have := H64.out; omega) HL1.out
      rotate_left
      ·simp only [Act.put, List.setIfInBounds_toArray, List.set_cons_zero, List.set_cons_succ, zp, zq]
       rfl
      refine one_ (i := 3) (N := some 34) #[true, true, true, true, true, true, true, true, false] rfl rfl (by kernel_rfl) (by decide) (fun K hK => ?_)
      refine goes_ Try.func71 (by kernel_rfl) rfl #[.pointer (some ⟨gp, 0, none⟩), .int .i64 (rb : Int)] (by rfl) rfl rfl (by (try simp only [List.map_toArray, List.map_cons, List.map_nil]); first | done | rfl) ?_
      refine (place_c w7 W0.heap.size s gp dd pend m gy gm _ _ vK rb (HP.out.below HS.out HBR7.out) (by have := HBi.out; have := HCL.out; omega) (by have := HDL.out; have := HCL.out; omega)).mono ?_
      rintro e w8 ⟨gD2, cap2, hvD, hcap, rfl, rfl⟩
      injection hvD with e1_ e2_ e3_
      injection e1_ with e1_
      injection e1_ with e1_
      subst e1_ e3_
      clear e2_ hcap
      refine ⟨_, rfl, ?_⟩
      refine hK.out _ _ ⟨(zb HA57.out 0).trans rfl, (zb HA57.out 1).trans rfl⟩ (fun hHeld => ?_)
      clear hK K
      refine norm_ (a' := ?_) ?_ ?_
      rotate_left
      ·show Act.put _ (some 34) _ = _
       simp only [Act.put, List.setIfInBounds_toArray, List.set_cons_zero, List.set_cons_succ, zp, zq]
       rfl
      refine one_ (i := 8) (N := some 39) #[true, true, true, true, true, true, true, true, true] rfl rfl (by kernel_rfl) (by decide) (fun K hK => ?_)
      have hP7 := HP.out.below HS.out HBR7.out
      rw [← HCL.out] at hP7
      have hbd_ := HBi.out
      have hcb_ := HCB.out
      have hcl_ := HCL.out
      have hcv_ := HCV.out
      have hct_ := Kd.C_take (Kd.C_below HI1.out HBR7.out) (m := (64 : Int).toNat) (by have := H64.out; omega)
      have hlt_ : (rl.take (64 : Int).toNat).length = (64 : Int).toNat := by (have := H64.out; rw [List.length_take]; omega)
      rw [hlt_] at hct_
      obtain ⟨w9, hrun, hR9, hg9⟩ := copy_mid (ty := 3) (off := 64 * rb) (dl := 64) (dcap := cap - 64 * rb) (c := c) hP7.rd hct_ (by omega)
      refine value_ (w1 := w9) (v := _) (by rfl) rfl (exec_copy (by rfl) (by rfl) (by rfl) hrun) ?_
      have hput : dd.take (64 * rb) ++ (rl.take (64 : Int).toNat).take (min (64 : Int).toNat 64) ++ dd.drop (64 * rb + min (64 : Int).toNat 64) = put1 dd rb rl cc.toNat := by
       rw [hcv_, show min (64 : Int).toNat 64 = (64 : Int).toNat by omega, List.take_take, Nat.min_self]; rfl
      rw [hput] at hR9
      have hP9 := hP7.afterCopy (put1_len (by omega) (by omega) H64.out) hR9 hg9 (Nat.le_trans HS.out HBR7.out.size)
      rw [HCL.out, ← HCD.out] at hP9
      have HPN := Aside0.mk hP9
      have HBN := Aside0.mk (zv (zk HB.out HBR7.out) (some gD) (zk HB.out HBR7.out).size hg9 (fun k_ hk_ => Kd.R_base hP7.rd k_ hk_))
      have HSN := Aside0.mk (Nat.le_trans (Nat.le_trans HS.out HBR7.out.size) hg9.size)
      have HKN := Aside0.mk (Kept.of_grown hg9 (HKP.out.below HBR7.out) (fun k_ hk_ => .inl ⟨Kd.R_base hP7.rd k_ hk_, hP7.rd.1 k_ hk_⟩))
      have ne5 : some g5 ≠ some gD := fun e_ => by injection e_ with e_; have h1_ := hP7.rd.1 gD rfl; have h2_ := HG5.out; have h3_ := HS.out; omega
      have HA59 := Aside0.mk (zD HA57.out hg9 ne5)
      clear hct_ hlt_ hP7 hbd_ hcb_ hcl_ hcv_ hrun hR9 hg9 hput hP9 ne5
      refine hK.out _ _ ⟨(zb HA59.out 0).trans rfl, (zb HA59.out 1).trans rfl⟩ (fun hHeld => ?_)
      clear hK K
      refine norm_ (a' := ?_) ?_ ?_
      rotate_left
      ·show Act.put _ (some 39) _ = _
       simp only [Act.put, List.setIfInBounds_toArray, List.set_cons_zero, List.set_cons_succ, zp, zq]
       rfl
      refine done_ (by kernel_rfl) ?_
      try go_wp2
      go_roundg k2
      case measure => omega
      case rel =>
       refine ⟨_, i + 1, rfl, ⟨?_⟩, ⟨by have := HK.out; omega⟩, HPN, HBN, HSN, HKN⟩
       have := HX.out
       have := HIL.out
       have := HPL.out
       unfold wrap64
       omega
     ·have b3b : decide (64 < rd ch x) = false := decide_eq_false b3
      have hcv : cc = rd ch x := by rw [HCC.out]; unfold chI; rw [← HX.out]; simp only; rw [if_pos b1, if_neg b2, if_neg b3]
      clear b1 b2 b3
      have HCV := Aside0.mk hcv
      clear hcv
      go_wp2_with (first | ((with_reducible refine zt (N := 5) rfl ?_); refine Go.Proofs.YtejecjjimggjeaaH.alloc_arr rfl (t := 45) rfl (N := 5) rfl (zs := #[.int .i64 0, .slice none 0 0]) (n := 2) (by kernel_rfl) ?_; intro g5 hg5 w5 hA5 hb5 _; have HBR5 := Aside0.mk hb5; have HA5 := Aside0.mk hA5; have HG5 := Aside0.mk (show wr.heap.size ≤ g5 by (rw [hg5]; exact Nat.le_refl _)); clear hA5 hg5 hb5) | (refine Go.Proofs.YtejecjjimggjeaaH.store_arr (g := g5) (cells := #[.int .i64 (rb : Int), .slice A rl.length c]) rfl (t := 45) rfl rfl rfl rfl HA5.out (by kernel_rfl) rfl (by kernel_rfl) ?_; intro w6 hA56 hg6_; have HA56 := Aside0.mk hA56; have HBR6 := Aside0.mk (zv HBR5.out (some g5) HBR5.out.size hg6_ (fun k_ hk_ => by injection hk_ with hk_; rw [← hk_]; exact HG5.out)); (try have hx2 := ((zk HB.out HBR6.out).cell (World.block_lt_of_cell? W0 _ HXC.out)).trans HXC.out); clear hA56 hg6_))
      refine start_ (n := 9) (S := fun w' => w'.cell? ⟨g5, 0, none⟩ = some (.int .i64 (rb : Int)) ∧ w'.cell? ⟨g5, 1, none⟩ = some (.slice A rl.length c)) (ds := []) #[false, false, false, false, false, false, false, false, false] (by kernel_rfl) rfl rfl ⟨(zb (zg HA56.out) 0).trans rfl, (zb (zg HA56.out) 1).trans rfl⟩ (fun hHeld => ?_)
      have HBR7 := Aside0.mk (below_drew HBR6.out); have HA57 := Aside0.mk (zg HA56.out); generalize w6.drew = w7 at HBR7 HA57 hHeld ⊢
      refine zA (i := 0) (N := some 31) (v := ?_) (a' := ?_) #[true, false, false, false, false, false, false, false, false] rfl rfl (by kernel_rfl) (fun _ _ _ h => h) (Or.inl ⟨by rfl, ?_⟩) ?_ ?_
      rotate_left
      ·intro w'
       go_simp
       with_reducible rfl
      rotate_left
      ·simp only [Act.put, List.setIfInBounds_toArray, List.set_cons_zero, List.set_cons_succ, zp, zq]
       rfl
      refine zA (i := 1) (N := some 32) (v := ?_) (a' := ?_) #[true, true, false, false, false, false, false, false, false] rfl rfl (by kernel_rfl) (fun _ _ _ h => h) (Or.inl ⟨by rfl, ?_⟩) ?_ ?_
      rotate_left
      ·intro w'
       go_simp
       with_reducible rfl
      rotate_left
      ·simp only [Act.put, List.setIfInBounds_toArray, List.set_cons_zero, List.set_cons_succ, zp, zq]
       rfl
      refine zA (i := 4) (N := some 35) (v := ?_) (a' := ?_) #[true, true, false, false, true, false, false, false, false] rfl rfl (by kernel_rfl) (fun _ _ _ h => h) (Or.inl ⟨by rfl, ?_⟩) ?_ ?_
      rotate_left
      ·intro w'
       go_simp
       with_reducible rfl
      rotate_left
      ·simp only [Act.put, List.setIfInBounds_toArray, List.set_cons_zero, List.set_cons_succ, zp, zq]
       rfl
      refine zA (i := 6) (N := some 37) (v := ?_) (a' := ?_) #[true, true, false, false, true, false, true, false, false] rfl rfl (by kernel_rfl) (fun _ _ _ h => h) (Or.inl ⟨by rfl, ?_⟩) ?_ ?_
      rotate_left
      ·intro w'
       go_simp
       with_reducible rfl
      rotate_left
      ·simp only [Act.put, List.setIfInBounds_toArray, List.set_cons_zero, List.set_cons_succ, zp, zq]
       rfl
      refine take_ (i := 2) (N := some 33) (v := ?_) (a' := ?_) #[true, true, true, false, true, false, true, false, false] rfl rfl (by kernel_rfl) (fun _ _ _ h => h) (Or.inl ⟨by rfl, ?_⟩) hHeld ?_ ?_
      rotate_left
      ·rintro w' ⟨s0, s1⟩
       go_simp
       with_reducible rfl
      rotate_left
      ·simp only [Act.put, List.setIfInBounds_toArray, List.set_cons_zero, List.set_cons_succ, zp, zq]
       rfl
      refine take_ (i := 5) (N := some 36) (v := ?_) (a' := ?_) #[true, true, true, false, true, true, true, false, false] rfl rfl (by kernel_rfl) (fun _ _ _ h => h) (Or.inl ⟨by rfl, ?_⟩) hHeld ?_ ?_
      rotate_left
      ·rintro w' ⟨s0, s1⟩
       go_simp
       with_reducible rfl
      rotate_left
      ·simp only [Act.put, List.setIfInBounds_toArray, List.set_cons_zero, List.set_cons_succ, zp, zq]
       rfl
      refine zA (i := 7) (N := some 38) (v := .slice A (rd ch x : Int).toNat c) (a' := ?_) #[true, true, true, false, true, true, true, true, false] rfl rfl (by kernel_rfl) (fun _ _ _ h => h) (Or.inl ⟨by rfl, ?_⟩) ?_ ?_
      ·intro w'
       exact run_hi (h := (rd ch x : Int)) (by rfl) (by rfl) (by rfl) (by have := HCB.out; have := HCV.out; omega) (by have := HCB.out; have := HCV.out; have := H64.out; omega) HL1.out
      rotate_left
      ·simp only [Act.put, List.setIfInBounds_toArray, List.set_cons_zero, List.set_cons_succ, zp, zq]
       rfl
      refine one_ (i := 3) (N := some 34) #[true, true, true, true, true, true, true, true, false] rfl rfl (by kernel_rfl) (by decide) (fun K hK => ?_)
      refine goes_ Try.func71 (by kernel_rfl) rfl #[.pointer (some ⟨gp, 0, none⟩), .int .i64 (rb : Int)] (by rfl) rfl rfl (by (try simp only [List.map_toArray, List.map_cons, List.map_nil]); first | done | rfl) ?_
      refine (place_c w7 W0.heap.size s gp dd pend m gy gm _ _ vK rb (HP.out.below HS.out HBR7.out) (by have := HBi.out; have := HCL.out; omega) (by have := HDL.out; have := HCL.out; omega)).mono ?_
      rintro e w8 ⟨gD2, cap2, hvD, hcap, rfl, rfl⟩
      injection hvD with e1_ e2_ e3_
      injection e1_ with e1_
      injection e1_ with e1_
      subst e1_ e3_
      clear e2_ hcap
      refine ⟨_, rfl, ?_⟩
      refine hK.out _ _ ⟨(zb HA57.out 0).trans rfl, (zb HA57.out 1).trans rfl⟩ (fun hHeld => ?_)
      clear hK K
      refine norm_ (a' := ?_) ?_ ?_
      rotate_left
      ·show Act.put _ (some 34) _ = _
       simp only [Act.put, List.setIfInBounds_toArray, List.set_cons_zero, List.set_cons_succ, zp, zq]
       rfl
      refine one_ (i := 8) (N := some 39) #[true, true, true, true, true, true, true, true, true] rfl rfl (by kernel_rfl) (by decide) (fun K hK => ?_)
      have hP7 := HP.out.below HS.out HBR7.out
      rw [← HCL.out] at hP7
      have hbd_ := HBi.out
      have hcb_ := HCB.out
      have hcl_ := HCL.out
      have hcv_ := HCV.out
      have hct_ := Kd.C_take (Kd.C_below HI1.out HBR7.out) (m := (rd ch x : Int).toNat) (by have := H64.out; omega)
      have hlt_ : (rl.take (rd ch x : Int).toNat).length = (rd ch x : Int).toNat := by (have := H64.out; rw [List.length_take]; omega)
      rw [hlt_] at hct_
      obtain ⟨w9, hrun, hR9, hg9⟩ := copy_mid (ty := 3) (off := 64 * rb) (dl := 64) (dcap := cap - 64 * rb) (c := c) hP7.rd hct_ (by omega)
      refine value_ (w1 := w9) (v := _) (by rfl) rfl (exec_copy (by rfl) (by rfl) (by rfl) hrun) ?_
      have hput : dd.take (64 * rb) ++ (rl.take (rd ch x : Int).toNat).take (min (rd ch x : Int).toNat 64) ++ dd.drop (64 * rb + min (rd ch x : Int).toNat 64) = put1 dd rb rl cc.toNat := by
       rw [hcv_, show min (rd ch x : Int).toNat 64 = (rd ch x : Int).toNat by omega, List.take_take, Nat.min_self]; rfl
      rw [hput] at hR9
      have hP9 := hP7.afterCopy (put1_len (by omega) (by omega) H64.out) hR9 hg9 (Nat.le_trans HS.out HBR7.out.size)
      rw [HCL.out, ← HCD.out] at hP9
      have HPN := Aside0.mk hP9
      have HBN := Aside0.mk (zv (zk HB.out HBR7.out) (some gD) (zk HB.out HBR7.out).size hg9 (fun k_ hk_ => Kd.R_base hP7.rd k_ hk_))
      have HSN := Aside0.mk (Nat.le_trans (Nat.le_trans HS.out HBR7.out.size) hg9.size)
      have HKN := Aside0.mk (Kept.of_grown hg9 (HKP.out.below HBR7.out) (fun k_ hk_ => .inl ⟨Kd.R_base hP7.rd k_ hk_, hP7.rd.1 k_ hk_⟩))
      have ne5 : some g5 ≠ some gD := fun e_ => by injection e_ with e_; have h1_ := hP7.rd.1 gD rfl; have h2_ := HG5.out; have h3_ := HS.out; omega
      have HA59 := Aside0.mk (zD HA57.out hg9 ne5)
      clear hct_ hlt_ hP7 hbd_ hcb_ hcl_ hcv_ hrun hR9 hg9 hput hP9 ne5
      refine hK.out _ _ ⟨(zb HA59.out 0).trans rfl, (zb HA59.out 1).trans rfl⟩ (fun hHeld => ?_)
      clear hK K
      refine norm_ (a' := ?_) ?_ ?_
      rotate_left
      ·show Act.put _ (some 39) _ = _
       simp only [Act.put, List.setIfInBounds_toArray, List.set_cons_zero, List.set_cons_succ, zp, zq]
       rfl
      refine done_ (by kernel_rfl) ?_
      try go_wp2
      go_roundg k2
      case measure => omega
      case rel =>
       refine ⟨_, i + 1, rfl, ⟨?_⟩, ⟨by have := HK.out; omega⟩, HPN, HBN, HSN, HKN⟩
       have := HX.out
       have := HIL.out
       have := HPL.out
       unfold wrap64
       omega
   ·have b1b : decide (x < (ch.length : Int)) = false := decide_eq_false b1
    have hcv : cc = 0 := by rw [HCC.out]; unfold chI; rw [← HX.out]; simp only; rw [if_neg b1, if_neg (by omega), if_neg (by omega)]
    clear b1
    have HCV := Aside0.mk hcv
    clear hcv
    go_wp2_with (first | ((with_reducible refine zt (N := 5) rfl ?_); refine Go.Proofs.YtejecjjimggjeaaH.alloc_arr rfl (t := 45) rfl (N := 5) rfl (zs := #[.int .i64 0, .slice none 0 0]) (n := 2) (by kernel_rfl) ?_; intro g5 hg5 w5 hA5 hb5 _; have HBR5 := Aside0.mk hb5; have HA5 := Aside0.mk hA5; have HG5 := Aside0.mk (show wr.heap.size ≤ g5 by (rw [hg5]; exact Nat.le_refl _)); clear hA5 hg5 hb5) | (refine Go.Proofs.YtejecjjimggjeaaH.store_arr (g := g5) (cells := #[.int .i64 (rb : Int), .slice A rl.length c]) rfl (t := 45) rfl rfl rfl rfl HA5.out (by kernel_rfl) rfl (by kernel_rfl) ?_; intro w6 hA56 hg6_; have HA56 := Aside0.mk hA56; have HBR6 := Aside0.mk (zv HBR5.out (some g5) HBR5.out.size hg6_ (fun k_ hk_ => by injection hk_ with hk_; rw [← hk_]; exact HG5.out)); (try have hx2 := ((zk HB.out HBR6.out).cell (World.block_lt_of_cell? W0 _ HXC.out)).trans HXC.out); clear hA56 hg6_))
    refine start_ (n := 9) (S := fun w' => w'.cell? ⟨g5, 0, none⟩ = some (.int .i64 (rb : Int)) ∧ w'.cell? ⟨g5, 1, none⟩ = some (.slice A rl.length c)) (ds := []) #[false, false, false, false, false, false, false, false, false] (by kernel_rfl) rfl rfl ⟨(zb (zg HA56.out) 0).trans rfl, (zb (zg HA56.out) 1).trans rfl⟩ (fun hHeld => ?_)
    have HBR7 := Aside0.mk (below_drew HBR6.out); have HA57 := Aside0.mk (zg HA56.out); generalize w6.drew = w7 at HBR7 HA57 hHeld ⊢
    refine zA (i := 0) (N := some 31) (v := ?_) (a' := ?_) #[true, false, false, false, false, false, false, false, false] rfl rfl (by kernel_rfl) (fun _ _ _ h => h) (Or.inl ⟨by rfl, ?_⟩) ?_ ?_
    rotate_left
    ·intro w'
     go_simp
     with_reducible rfl
    rotate_left
    ·simp only [Act.put, List.setIfInBounds_toArray, List.set_cons_zero, List.set_cons_succ, zp, zq]
     rfl
    refine zA (i := 1) (N := some 32) (v := ?_) (a' := ?_) #[true, true, false, false, false, false, false, false, false] rfl rfl (by kernel_rfl) (fun _ _ _ h => h) (Or.inl ⟨by rfl, ?_⟩) ?_ ?_
    rotate_left
    ·intro w'
     go_simp
     with_reducible rfl
    rotate_left
    ·simp only [Act.put, List.setIfInBounds_toArray, List.set_cons_zero, List.set_cons_succ, zp, zq]
     rfl
    refine zA (i := 4) (N := some 35) (v := ?_) (a' := ?_) #[true, true, false, false, true, false, false, false, false] rfl rfl (by kernel_rfl) (fun _ _ _ h => h) (Or.inl ⟨by rfl, ?_⟩) ?_ ?_
    rotate_left
    ·intro w'
     go_simp
     with_reducible rfl
    rotate_left
    ·simp only [Act.put, List.setIfInBounds_toArray, List.set_cons_zero, List.set_cons_succ, zp, zq]
     rfl
    refine zA (i := 6) (N := some 37) (v := ?_) (a' := ?_) #[true, true, false, false, true, false, true, false, false] rfl rfl (by kernel_rfl) (fun _ _ _ h => h) (Or.inl ⟨by rfl, ?_⟩) ?_ ?_
    rotate_left
    ·intro w'
     go_simp
     with_reducible rfl
    rotate_left
    ·simp only [Act.put, List.setIfInBounds_toArray, List.set_cons_zero, List.set_cons_succ, zp, zq]
     rfl
    refine take_ (i := 2) (N := some 33) (v := ?_) (a' := ?_) #[true, true, true, false, true, false, true, false, false] rfl rfl (by kernel_rfl) (fun _ _ _ h => h) (Or.inl ⟨by rfl, ?_⟩) hHeld ?_ ?_
    rotate_left
    ·rintro w' ⟨s0, s1⟩
     go_simp
     with_reducible rfl
    rotate_left
    ·simp only [Act.put, List.setIfInBounds_toArray, List.set_cons_zero, List.set_cons_succ, zp, zq]
     rfl
    refine take_ (i := 5) (N := some 36) (v := ?_) (a' := ?_) #[true, true, true, false, true, true, true, false, false] rfl rfl (by kernel_rfl) (fun _ _ _ h => h) (Or.inl ⟨by rfl, ?_⟩) hHeld ?_ ?_
    rotate_left
    ·rintro w' ⟨s0, s1⟩
     go_simp
     with_reducible rfl
    rotate_left
    ·simp only [Act.put, List.setIfInBounds_toArray, List.set_cons_zero, List.set_cons_succ, zp, zq]
     rfl
    refine zA (i := 7) (N := some 38) (v := .slice A (0 : Int).toNat c) (a' := ?_) #[true, true, true, false, true, true, true, true, false] rfl rfl (by kernel_rfl) (fun _ _ _ h => h) (Or.inl ⟨by rfl, ?_⟩) ?_ ?_
    ·intro w'
     exact run_hi (h := (0 : Int)) (by rfl) (by rfl) (by rfl) (by have := HCB.out; have := HCV.out; omega) (by have := HCB.out; have := HCV.out; have := H64.out; omega) HL1.out
    rotate_left
    ·simp only [Act.put, List.setIfInBounds_toArray, List.set_cons_zero, List.set_cons_succ, zp, zq]
     rfl
    refine one_ (i := 3) (N := some 34) #[true, true, true, true, true, true, true, true, false] rfl rfl (by kernel_rfl) (by decide) (fun K hK => ?_)
    refine goes_ Try.func71 (by kernel_rfl) rfl #[.pointer (some ⟨gp, 0, none⟩), .int .i64 (rb : Int)] (by rfl) rfl rfl (by (try simp only [List.map_toArray, List.map_cons, List.map_nil]); first | done | rfl) ?_
    refine (place_c w7 W0.heap.size s gp dd pend m gy gm _ _ vK rb (HP.out.below HS.out HBR7.out) (by have := HBi.out; have := HCL.out; omega) (by have := HDL.out; have := HCL.out; omega)).mono ?_
    rintro e w8 ⟨gD2, cap2, hvD, hcap, rfl, rfl⟩
    injection hvD with e1_ e2_ e3_
    injection e1_ with e1_
    injection e1_ with e1_
    subst e1_ e3_
    clear e2_ hcap
    refine ⟨_, rfl, ?_⟩
    refine hK.out _ _ ⟨(zb HA57.out 0).trans rfl, (zb HA57.out 1).trans rfl⟩ (fun hHeld => ?_)
    clear hK K
    refine norm_ (a' := ?_) ?_ ?_
    rotate_left
    ·show Act.put _ (some 34) _ = _
     simp only [Act.put, List.setIfInBounds_toArray, List.set_cons_zero, List.set_cons_succ, zp, zq]
     rfl
    refine one_ (i := 8) (N := some 39) #[true, true, true, true, true, true, true, true, true] rfl rfl (by kernel_rfl) (by decide) (fun K hK => ?_)
    have hP7 := HP.out.below HS.out HBR7.out
    rw [← HCL.out] at hP7
    have hbd_ := HBi.out
    have hcb_ := HCB.out
    have hcl_ := HCL.out
    have hcv_ := HCV.out
    have hct_ := Kd.C_take (Kd.C_below HI1.out HBR7.out) (m := (0 : Int).toNat) (by have := H64.out; omega)
    have hlt_ : (rl.take (0 : Int).toNat).length = (0 : Int).toNat := by (have := H64.out; rw [List.length_take]; omega)
    rw [hlt_] at hct_
    obtain ⟨w9, hrun, hR9, hg9⟩ := copy_mid (ty := 3) (off := 64 * rb) (dl := 64) (dcap := cap - 64 * rb) (c := c) hP7.rd hct_ (by omega)
    refine value_ (w1 := w9) (v := _) (by rfl) rfl (exec_copy (by rfl) (by rfl) (by rfl) hrun) ?_
    have hput : dd.take (64 * rb) ++ (rl.take (0 : Int).toNat).take (min (0 : Int).toNat 64) ++ dd.drop (64 * rb + min (0 : Int).toNat 64) = put1 dd rb rl cc.toNat := by
     rw [hcv_, show min (0 : Int).toNat 64 = (0 : Int).toNat by omega, List.take_take, Nat.min_self]; rfl
    rw [hput] at hR9
    have hP9 := hP7.afterCopy (put1_len (by omega) (by omega) H64.out) hR9 hg9 (Nat.le_trans HS.out HBR7.out.size)
    rw [HCL.out, ← HCD.out] at hP9
    have HPN := Aside0.mk hP9
    have HBN := Aside0.mk (zv (zk HB.out HBR7.out) (some gD) (zk HB.out HBR7.out).size hg9 (fun k_ hk_ => Kd.R_base hP7.rd k_ hk_))
    have HSN := Aside0.mk (Nat.le_trans (Nat.le_trans HS.out HBR7.out.size) hg9.size)
    have HKN := Aside0.mk (Kept.of_grown hg9 (HKP.out.below HBR7.out) (fun k_ hk_ => .inl ⟨Kd.R_base hP7.rd k_ hk_, hP7.rd.1 k_ hk_⟩))
    have ne5 : some g5 ≠ some gD := fun e_ => by injection e_ with e_; have h1_ := hP7.rd.1 gD rfl; have h2_ := HG5.out; have h3_ := HS.out; omega
    have HA59 := Aside0.mk (zD HA57.out hg9 ne5)
    clear hct_ hlt_ hP7 hbd_ hcb_ hcl_ hcv_ hrun hR9 hg9 hput hP9 ne5
    refine hK.out _ _ ⟨(zb HA59.out 0).trans rfl, (zb HA59.out 1).trans rfl⟩ (fun hHeld => ?_)
    clear hK K
    refine norm_ (a' := ?_) ?_ ?_
    rotate_left
    ·show Act.put _ (some 39) _ = _
     simp only [Act.put, List.setIfInBounds_toArray, List.set_cons_zero, List.set_cons_succ, zp, zq]
     rfl
    refine done_ (by kernel_rfl) ?_
    try go_wp2
    go_roundg k2
    case measure => omega
    case rel =>
     refine ⟨_, i + 1, rfl, ⟨?_⟩, ⟨by have := HK.out; omega⟩, HPN, HBN, HSN, HKN⟩
     have := HX.out
     have := HIL.out
     have := HPL.out
     unfold wrap64
     omega
theorem pend_bdC {n : Nat} {l : List S45} (h : l.all (fun p => decide (0 ≤ p.f0 ∧ 64 * p.f0 + 64 ≤ (n : Int))) = true) : ∀ i : Nat, i < l.length → 0 ≤ (rd_T45 l (i : Int)).f0 ∧ 64 * (rd_T45 l (i : Int)).f0 + 64 ≤ (n : Int) := by
 intro i hi
 have h1 := of_decide_eq_true (List.all_eq_true.mp h (l[i]) (List.getElem_mem hi))
 unfold rd_T45
 simpa [hi] using h1
def impl_DiskCrash.g (l0_0 : List Int) (l0_1 : List S45) (l2 : List Int) : Option (List Int × List S45) := if l0_0.length ≤ 100000000 ∧ l0_1.length ≤ 1000000 ∧ 0 < l0_0.length ∧ l0_1.all (fun p => decide (p.f1.length = 64)) = true ∧ l0_1.all (fun p => decide (0 ≤ p.f0 ∧ 64 * p.f0 + 64 ≤ (l0_0.length : Int))) = true then some (crashD l0_0 l0_1 l2 l0_1.length, []) else none
def impl_DiskCrash.f (k : Nat) (l0_0 : List Int) (l0_1 : List S45) (l2 : List Int) : Option (List Int × List S45) := (impl_ValidDisk.f k l0_0 l0_1).bind fun t => (if t = true then (if (l2.length : Int) > 2000 then some ([], []) else (impl_DiskCrash.g l0_0 l0_1 l2)) else some ([], []))
theorem impl_DiskCrash.mono : ∀ l0_0 l0_1 l2 k, LeO (impl_DiskCrash.f k l0_0 l0_1 l2) (impl_DiskCrash.f (k + 1) l0_0 l0_1 l2) := by
 intro l0_0 l0_1 l2 k
 unfold impl_DiskCrash.f
 exact LeO.bind (impl_ValidDisk.mono _ _ _) (fun _ => LeO.refl _)
set_option maxHeartbeats 8000000 in
set_option maxRecDepth 100000 in
theorem impl_DiskCrash.calls (k : Nat) (A0_0 : Option Addr) (c0_0 : Nat) (l0_0 : List Int) (A0_1 : Option Addr) (c0_1 : Nat) (l0_1 : List S45) (A2 : Option Addr) (c2 : Nat) (l2 : List Int) (r1 : List Int) (r2 : List S45) (w : World) (hr0_0 : Kd.C (Kd.int .u8) w A0_0 l0_0.length l0_0) (hc0_0 : l0_0.length ≤ c0_0) (hr0_1 : Kd.C k45 w A0_1 l0_1.length l0_1) (hc0_1 : l0_1.length ≤ c0_1) (hr2 : Kd.C (Kd.int .i64) w A2 l2.length l2) (hc2 : l2.length ≤ c2) (h : impl_DiskCrash.f k l0_0 l0_1 l2 = some (r1, r2)) :
  Calls Try.prog 19 #[.agg #[.slice A0_0 l0_0.length c0_0, .slice A0_1 l0_1.length c0_1], .slice A2 l2.length c2] w fun e w' => ∃ v0_ v1_ : Value, e = .returned (.agg #[v0_, v1_]) ∧ Kd.R (Kd.int .u8) 5 w' w.heap.size (fun _ => True) v0_ r1 ∧ Kd.S k45 45 w' w.heap.size (fun k_ => some k_ ≠ (v0_ : Value).ownBlock) v1_ r2 ∧ Below w.heap.size w w' := by
 have HR0 := Aside0.mk hr0_0
 have HC0 := Aside0.mk hc0_0
 have HR1 := Aside0.mk hr0_1
 have HC1 := Aside0.mk hc0_1
 have HR2 := Aside0.mk hr2
 have HC2 := Aside0.mk hc2
 clear hr0_0 hc0_0 hr0_1 hc0_1 hr2 hc2
 unfold impl_DiskCrash.f at h
 obtain ⟨t, ht, h⟩ := Option.bind_eq_some_iff.mp h
 have HVD := Aside0.mk ht
 clear ht
 cases t with
 | false =>
  rw [if_neg (by decide)] at h
  simp only [Option.some.injEq, Prod.mk.injEq] at h
  obtain ⟨rfl, rfl⟩ := h
  go_enter Try.func19, Try.ntmps19
  go_wp2_with (first | ((with_reducible refine zt (N := 2) rfl ?_); refine Go.Proofs.YtejecjjimggjeaaH.box_arr (cs := #[.slice A0_0 l0_0.length c0_0, .slice A0_1 l0_1.length c0_1]) rfl (t := 35) rfl (N := 2) rfl rfl ?_; intro g1 hg1 w1 hA1 hb_; have HA1 := Aside0.mk hA1; have HB1 := Aside0.mk hb_; clear hA1 hb_ hg1) | ((with_reducible refine zt (N := 4) rfl ?_); refine Go.Proofs.YtejecjjimggjeaaH.alloc_arr rfl (t := 35) rfl (N := 4) rfl (zs := #[.slice none 0 0, .slice none 0 0]) (n := 2) (by kernel_rfl) ?_; intro g6 hg6 w2 hA6 hb_ _; have HA6 := Aside0.mk hA6; have HA12 := Aside0.mk ((hb_.block _ (zr HA1.out)).trans HA1.out); have HB2 := Aside0.mk (zk HB1.out hb_); have HGE6 := Aside0.mk (show w.heap.size ≤ g6 by (rw [hg6]; exact HB1.out.size)); have hc10 : w2.cell? ⟨g1, 0, none⟩ = some (.slice A0_0 l0_0.length c0_0) := (zb HA12.out 0).trans rfl; have hc11 : w2.cell? ⟨g1, 1, none⟩ = some (.slice A0_1 l0_1.length c0_1) := (zb HA12.out 1).trans rfl; clear hA6 hb_ hg6) | ((with_reducible refine zo (f := 39) rfl ?_); refine zC (some 7) rfl rfl Try.func39 (by kernel_rfl) rfl #[.agg #[.slice A0_0 l0_0.length c0_0, .slice A0_1 l0_1.length c0_1]] rfl (by (try simp only [List.map_toArray, List.map_cons, List.map_nil]); first | done | rfl) ?_; refine (impl_ValidDisk.calls k A0_0 c0_0 l0_0 A0_1 c0_1 l0_1 _ w2 (Kd.C_below HR0.out HB2.out) HC0.out (Kd.C_below HR1.out HB2.out) HC1.out HVD.out).mono ?_; rintro e w3 ⟨rfl, hb_⟩; refine ⟨_, rfl, ?_⟩; have HA13 := Aside0.mk ((hb_.block _ (zr HA12.out)).trans HA12.out); have HA63 := Aside0.mk ((hb_.block _ (zr HA6.out)).trans HA6.out); have HB3 := Aside0.mk (zk HB2.out hb_); clear hb_ hc10 hc11; have hc10 : w3.cell? ⟨g1, 0, none⟩ = some (.slice A0_0 l0_0.length c0_0) := (zb HA13.out 0).trans rfl; have hc11 : w3.cell? ⟨g1, 1, none⟩ = some (.slice A0_1 l0_1.length c0_1) := (zb HA13.out 1).trans rfl) | (refine Go.Proofs.YtejecjjimggjeaaH.store_arr (g := g6) (cells := #[.slice none 0 0, .slice none 0 0]) rfl (t := 35) rfl rfl rfl rfl HA63.out (by kernel_rfl) rfl (by kernel_rfl) ?_; intro w9 hA9 hg9; have HA9 := Aside0.mk hA9; have HB9 := Aside0.mk (zv HB3.out (some g6) HB3.out.size hg9 (fun k_ hk_ => by injection hk_ with hk_; exact hk_ ▸ HGE6.out)); clear hA9 hg9))
  refine bodyPost_ret (results_cell_row rfl _ _ g6 35 _ (0, 0) _ rfl HA9.out Try.underlying35 rfl (by kernel_rfl)) rfl ?_
  exact ⟨_, _, rfl, Kd.R_nil _ _ _ _ _, Kd.S_nil _ _ _ _ _, HB9.out⟩
 | true =>
  rw [if_pos rfl] at h
  by_cases c4 : (l2.length : Int) > 2000
  ·rw [if_pos c4] at h
   simp only [Option.some.injEq, Prod.mk.injEq] at h
   obtain ⟨rfl, rfl⟩ := h
   have c4b : decide (2000 < (l2.length : Int)) = true := decide_eq_true c4
   clear c4
   go_enter Try.func19, Try.ntmps19
   go_wp2_with (first | ((with_reducible refine zt (N := 2) rfl ?_); refine Go.Proofs.YtejecjjimggjeaaH.box_arr (cs := #[.slice A0_0 l0_0.length c0_0, .slice A0_1 l0_1.length c0_1]) rfl (t := 35) rfl (N := 2) rfl rfl ?_; intro g1 hg1 w1 hA1 hb_; have HA1 := Aside0.mk hA1; have HB1 := Aside0.mk hb_; clear hA1 hb_ hg1) | ((with_reducible refine zt (N := 4) rfl ?_); refine Go.Proofs.YtejecjjimggjeaaH.alloc_arr rfl (t := 35) rfl (N := 4) rfl (zs := #[.slice none 0 0, .slice none 0 0]) (n := 2) (by kernel_rfl) ?_; intro g6 hg6 w2 hA6 hb_ _; have HA6 := Aside0.mk hA6; have HA12 := Aside0.mk ((hb_.block _ (zr HA1.out)).trans HA1.out); have HB2 := Aside0.mk (zk HB1.out hb_); have HGE6 := Aside0.mk (show w.heap.size ≤ g6 by (rw [hg6]; exact HB1.out.size)); have hc10 : w2.cell? ⟨g1, 0, none⟩ = some (.slice A0_0 l0_0.length c0_0) := (zb HA12.out 0).trans rfl; have hc11 : w2.cell? ⟨g1, 1, none⟩ = some (.slice A0_1 l0_1.length c0_1) := (zb HA12.out 1).trans rfl; clear hA6 hb_ hg6) | ((with_reducible refine zo (f := 39) rfl ?_); refine zC (some 7) rfl rfl Try.func39 (by kernel_rfl) rfl #[.agg #[.slice A0_0 l0_0.length c0_0, .slice A0_1 l0_1.length c0_1]] rfl (by (try simp only [List.map_toArray, List.map_cons, List.map_nil]); first | done | rfl) ?_; refine (impl_ValidDisk.calls k A0_0 c0_0 l0_0 A0_1 c0_1 l0_1 _ w2 (Kd.C_below HR0.out HB2.out) HC0.out (Kd.C_below HR1.out HB2.out) HC1.out HVD.out).mono ?_; rintro e w3 ⟨rfl, hb_⟩; refine ⟨_, rfl, ?_⟩; have HA13 := Aside0.mk ((hb_.block _ (zr HA12.out)).trans HA12.out); have HA63 := Aside0.mk ((hb_.block _ (zr HA6.out)).trans HA6.out); have HB3 := Aside0.mk (zk HB2.out hb_); clear hb_ hc10 hc11; have hc10 : w3.cell? ⟨g1, 0, none⟩ = some (.slice A0_0 l0_0.length c0_0) := (zb HA13.out 0).trans rfl; have hc11 : w3.cell? ⟨g1, 1, none⟩ = some (.slice A0_1 l0_1.length c0_1) := (zb HA13.out 1).trans rfl) | (refine Go.Proofs.YtejecjjimggjeaaH.store_arr (g := g6) (cells := #[.slice none 0 0, .slice none 0 0]) rfl (t := 35) rfl rfl rfl rfl HA63.out (by kernel_rfl) rfl (by kernel_rfl) ?_; intro w9 hA9 hg9; have HA9 := Aside0.mk hA9; have HB9 := Aside0.mk (zv HB3.out (some g6) HB3.out.size hg9 (fun k_ hk_ => by injection hk_ with hk_; exact hk_ ▸ HGE6.out)); clear hA9 hg9))
   refine bodyPost_ret (results_cell_row rfl _ _ g6 35 _ (0, 0) _ rfl HA9.out Try.underlying35 rfl (by kernel_rfl)) rfl ?_
   exact ⟨_, _, rfl, Kd.R_nil _ _ _ _ _, Kd.S_nil _ _ _ _ _, HB9.out⟩
  ·rw [if_neg c4] at h
   have c4b : decide (2000 < (l2.length : Int)) = false := decide_eq_false c4
   unfold impl_DiskCrash.g at h
   split at h
   ·rename_i hg
    simp only [Option.some.injEq, Prod.mk.injEq] at h
    obtain ⟨rfl, rfl⟩ := h
    have HG1 := Aside0.mk hg.1
    have HG2 := Aside0.mk hg.2.1
    have HG3 := Aside0.mk hg.2.2.1
    have HG4 := Aside0.mk hg.2.2.2.1
    have HG5 := Aside0.mk hg.2.2.2.2
    clear hg c4
    go_enter Try.func19, Try.ntmps19
    go_wp2_with (first | ((with_reducible refine zt (N := 2) rfl ?_); refine Go.Proofs.YtejecjjimggjeaaH.box_arr (cs := #[.slice A0_0 l0_0.length c0_0, .slice A0_1 l0_1.length c0_1]) rfl (t := 35) rfl (N := 2) rfl rfl ?_; intro g1 hg1 w1 hA1 hb_; have HA1 := Aside0.mk hA1; have HB1 := Aside0.mk hb_; clear hA1 hb_ hg1) | ((with_reducible refine zt (N := 4) rfl ?_); refine Go.Proofs.YtejecjjimggjeaaH.alloc_arr rfl (t := 35) rfl (N := 4) rfl (zs := #[.slice none 0 0, .slice none 0 0]) (n := 2) (by kernel_rfl) ?_; intro g6 hg6 w2 hA6 hb_ _; have HA6 := Aside0.mk hA6; have HA12 := Aside0.mk ((hb_.block _ (zr HA1.out)).trans HA1.out); have HB2 := Aside0.mk (zk HB1.out hb_); have HGE6 := Aside0.mk (show w.heap.size ≤ g6 by (rw [hg6]; exact HB1.out.size)); have hc10 : w2.cell? ⟨g1, 0, none⟩ = some (.slice A0_0 l0_0.length c0_0) := (zb HA12.out 0).trans rfl; have hc11 : w2.cell? ⟨g1, 1, none⟩ = some (.slice A0_1 l0_1.length c0_1) := (zb HA12.out 1).trans rfl; clear hA6 hb_ hg6) | ((with_reducible refine zo (f := 39) rfl ?_); refine zC (some 7) rfl rfl Try.func39 (by kernel_rfl) rfl #[.agg #[.slice A0_0 l0_0.length c0_0, .slice A0_1 l0_1.length c0_1]] rfl (by (try simp only [List.map_toArray, List.map_cons, List.map_nil]); first | done | rfl) ?_; refine (impl_ValidDisk.calls k A0_0 c0_0 l0_0 A0_1 c0_1 l0_1 _ w2 (Kd.C_below HR0.out HB2.out) HC0.out (Kd.C_below HR1.out HB2.out) HC1.out HVD.out).mono ?_; rintro e w3 ⟨rfl, hb_⟩; refine ⟨_, rfl, ?_⟩; have HA13 := Aside0.mk ((hb_.block _ (zr HA12.out)).trans HA12.out); have HA63 := Aside0.mk ((hb_.block _ (zr HA6.out)).trans HA6.out); have HB3 := Aside0.mk (zk HB2.out hb_); clear hb_ hc10 hc11; have hc10 : w3.cell? ⟨g1, 0, none⟩ = some (.slice A0_0 l0_0.length c0_0) := (zb HA13.out 0).trans rfl; have hc11 : w3.cell? ⟨g1, 1, none⟩ = some (.slice A0_1 l0_1.length c0_1) := (zb HA13.out 1).trans rfl) | ((with_reducible refine zo (f := 41) rfl ?_); refine zC (some 16) rfl rfl Try.func41 (by kernel_rfl) rfl #[.agg #[.slice A0_0 l0_0.length c0_0, .slice A0_1 l0_1.length c0_1]] rfl (by (try simp only [List.map_toArray, List.map_cons, List.map_nil]); first | done | rfl) ?_; refine (spin_c w3 A0_0 c0_0 l0_0 A0_1 c0_1 l0_1 (Kd.C_below HR0.out HB3.out) HC0.out (Kd.C_below HR1.out HB3.out) HC1.out (pend_all HG4.out) HG1.out HG2.out).mono ?_; rintro e w5 ⟨gp, gy, gm, vD, vP, vK, rfl, hP, hb_⟩; refine ⟨_, rfl, ?_⟩; have HP := Aside0.mk hP; have HA65 := Aside0.mk ((hb_.block _ (zr HA63.out)).trans HA63.out); have HS45 := Aside0.mk hb_; have HB5 := Aside0.mk (zk HB3.out hb_); have HL6 := Aside0.mk (zr HA63.out); clear hP hb_ hc10 hc11) | ((with_reducible refine zo (f := 48) rfl ?_); refine zC (some 19) rfl rfl Try.func48 (by kernel_rfl) rfl #[.pointer (some ⟨gp, 0, none⟩), .slice A2 l2.length c2] rfl (by (try simp only [List.map_toArray, List.map_cons, List.map_nil]); first | done | rfl) ?_; refine (crash_c w3 w5 _ gp l0_0 l0_1 (yng l0_1) gy gm vD vP vK A2 c2 l2 HP.out (Nat.le_refl _) HS45.out (Kd.C_below HR2.out HB3.out) HC2.out (pend_all HG4.out) (pend_bdC HG5.out) HG3.out HG1.out HG2.out).mono ?_; rintro e w6 ⟨rfl, gy', gm', hP, hb_, hk_⟩; refine ⟨_, rfl, ?_⟩; have HP6 := Aside0.mk hP; have HA66 := Aside0.mk ((hk_.2 g6 (zr HA65.out) (fun h_ => by have := HL6.out; omega)).trans HA65.out); have HB46 := Aside0.mk hb_; have HB6 := Aside0.mk (zk HB3.out HB46.out); clear hP hb_ hk_) | ((with_reducible refine zo (f := 43) rfl ?_); refine zC (some 21) rfl rfl Try.func43 (by kernel_rfl) rfl #[.pointer (some ⟨gp, 0, none⟩)] rfl (by (try simp only [List.map_toArray, List.map_cons, List.map_nil]); first | done | rfl) ?_; refine (disk_c w6 w3.heap.size _ gp (crashD l0_0 l0_1 l2 l0_1.length) [] [] gy' gm' vD (.slice none 0 0) (.slice none 0 0) HP6.out (Nat.le_refl _) (by rw [crashD_len (pend_all HG4.out) (pend_bdC HG5.out) _ (Nat.le_refl _)]; exact HG1.out) (by simp) (fun i hi => absurd hi (Nat.not_lt_zero _))).mono ?_; rintro e w7 ⟨v0, v1, rfl, hr_, hs_, hb_⟩; obtain ⟨Av0, cv0, ev0⟩ := Kd.R_slice hr_; subst ev0; obtain ⟨Av1, cv1, ev1⟩ := Kd.S_slice hs_; subst ev1; refine ⟨_, rfl, ?_⟩; have HR7 := Aside0.mk (Kd.R_lower hr_ HB6.out.size); have HS7 := Aside0.mk (Kd.S_lower hs_ HB6.out.size); have HA67 := Aside0.mk ((hb_.block _ (zr HA66.out)).trans HA66.out); have HB7 := Aside0.mk (zk HB6.out hb_); clear hr_ hs_ hb_) | (refine Go.Proofs.YtejecjjimggjeaaH.store_arr (g := g6) (cells := #[.slice Av0 (crashD l0_0 l0_1 l2 l0_1.length).length cv0, .slice Av1 ([] : List S45).length cv1]) rfl (t := 35) rfl rfl rfl rfl HA67.out (by kernel_rfl) rfl (by kernel_rfl) ?_; intro w9 hA9 hg9; have HA9 := Aside0.mk hA9; have HG9 := Aside0.mk hg9; have HB9 := Aside0.mk (zv HB7.out (some g6) HB7.out.size hg9 (fun k_ hk_ => by injection hk_ with hk_; exact hk_ ▸ HGE6.out)); clear hA9 hg9))
    refine bodyPost_ret (results_cell_row rfl _ _ g6 35 _ (0, 0) _ rfl HA9.out Try.underlying35 rfl (by kernel_rfl)) rfl ?_
    exact ⟨_, _, rfl, Kd.R_mono (Kd.R_grown (Kd.R_types HR7.out HA67.out (by decide)) HG9.out (fun k_ hk_ e_ => hk_.2 (by injection e_))) (fun _ _ => trivial), Kd.S_mono (Kd.S_grown (Kd.S_types HS7.out HA67.out (by decide)) HG9.out (fun k_ hk_ e_ => hk_.2 (by injection e_))) (fun _ hk_ => hk_.1), HB9.out⟩
   ·cases h

end Go.Proofs.Ytejecjjimggjeaa.GFnSync
