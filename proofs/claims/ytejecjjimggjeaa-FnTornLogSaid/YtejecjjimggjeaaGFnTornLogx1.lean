/- Written by give.py, a program of this session, that runs the kit's print and lays contracts proved by hand beside it. -/
import Derived.Test.YtejecjjimggjeaaGFnTornLogx0
namespace Go.Proofs.Ytejecjjimggjeaa.GFnTornLog
open Go.RowKit Go.Proofs.YtejecjjimggjeaaW.PrintWords Go.Proofs.YtejecjjimggjeaaW.PrintLast Go.Proofs.YtejecjjimggjeaaW.PrintMore
attribute [local go_sem] max2_int min2_int max_two min_two max_three min_three max_four min_four
attribute [local go_sem high] Go.Proofs.YtejecjjimggjeaaH.str_leq Go.Proofs.YtejecjjimggjeaaH.str_geq Go.Proofs.YtejecjjimggjeaaH.str_gtr   -- for this text's walks alone
set_option linter.unusedVariables false
set_option linter.unusedSimpArgs false

def Cap (w0 : World) (bx : Nat) (xs : List Int) (W : World) : Prop := ∃ v, W.heap[bx]? = some (.cells #[v] 22 (0,0)) ∧ Kd.R (Kd.int .u8) 5 W w0.heap.size (fun _ => True) v xs ∧ Below w0.heap.size w0 W ∧ w0.heap.size ≤ bx

set_option maxHeartbeats 1000000 in
set_option maxRecDepth 100000 in
theorem pack1 (bx : Nat) (xs : List Int) (g : Int) (w0 w : World) (hC : Cap w0 bx xs w) (hl : xs.length + 1 ≤ 140737488355328) (h0: 0 ≤ g) (h1 : g ≤ 255) :
   Calls Try.prog 75 #[.int .u8 g, .pointer (some ⟨bx,0,none⟩)] w fun e w' => e = .returned (.tuple #[]) ∧ Cap w0 bx (xs ++ [(128+g)%256]) w' := by
  obtain ⟨v, hb, zj, HB0, hbx⟩ := hC
  have HB := Aside0.mk HB0
  have HO := Aside0.mk zj
  have BK := Aside0.mk hb
  have HL := Aside0.mk hl
  clear HB0 zj hl
  have hc : w.cell? ⟨bx, 0, none⟩ = some v := (blk_cell BK.out 0).trans rfl
  have hf := blk_frozen BK.out 0
  clear hb
  go_enter Try.func75, Try.ntmps75
  go_wp2_with (((with_reducible refine zg (b := .append) (xs := #[.tmp 3, .tmp 6]) rfl ?_); at_builtin; refine Kd.R_append (Kd.int .u8) (w0 := w0) w0.heap.size rfl (.tmp 3) (.tmp 6) 22 5 (.int .u8 0) 1 rfl Try.underlying22 info5 rfl (by decide) (by omega) v xs ((128 + g) % 256) [.int .u8 ((128 + g) % 256)] (fun _ => True) (fun _ => False) rfl rfl ?aP (fun _ hk => hk.elim) ?aF ?aO ?aB ?aS ?aL ?_; (case aP => exact rfl); (case aB => exact HB.out); (case aF => exact (fun _ _ => trivial)); (case aO => exact HO.out); (case aS => exact HB.out.size); (case aL => have := HL.out; omega); intro v116 w12 ho hb2 hg hat; have zk := Aside0.mk ho; have HB2 := Aside0.mk hb2; have HG := Aside0.mk hg; have zi := Aside0.mk (blk_grown BK.out hg (Kd.R_ne HO.out BK.out (by decide))); have hc2 : w12.cell? ⟨bx, 0, none⟩ = some v := (blk_cell zi.out 0).trans rfl; obtain ⟨Ao2, co2, eo2⟩ := Kd.R_slice zk.out; subst eo2; have hf2 := blk_frozen zi.out 0; clear hc hf BK HO HB ho hb2 hg hat))
  go_end0
  have zl := zk.out
  rw [show (xs ++ [(128 + g) % 256]).length = xs.length + 1 from by simp] at zl
  exact ⟨rfl, .slice Ao2 (xs.length + 1) co2, blk_set zi.out 0 _, Kd.R_set zl zi.out (by decide) 0 _, below_set HB2.out hbx, hbx⟩


def drainM (tt : Nat) : Nat → Nat → Nat → List Int → Nat × Nat × List Int
  | 0, p, r, out => (p, r, out)
  | k+1, p, r, out => if tt ≤ r then drainM tt k (p % 2^(r-tt)) (r-tt) (out ++ [((p / 2^(r-tt) : Nat) : Int)]) else (p, r, out)
def feedM (frm tt : Nat) (s : Nat × Nat × List Int) (b : Int) : Nat × Nat × List Int := drainM tt 2 (s.1 * 2^frm + b.toNat % 2^frm) (s.2.1 + frm) s.2.2
def runM (frm tt : Nat) (l : List Int) : Nat × Nat × List Int := l.foldl (feedM frm tt) (0, 0, [])
def finM (tt : Nat) (s : Nat × Nat × List Int) : List Int := if 0 < s.2.1 then s.2.2 ++ [((s.1 * 2^(tt - s.2.1) : Nat) : Int)] else s.2.2

theorem wrap_u16 (n : Int) : IntKind.u16.wrap n = n % 65536 := by simp [IntKind.wrap, IntKind.bits, IntKind.signed]
theorem wraps_u16 (n : Int) (h₀ : 0 ≤ n) (h₁ : n < 2 ^ 16) : IntKind.u16.wrap n = n := by rw [wrap_u16]; omega
theorem or_lem (acc b : Int) (h0 : 0 ≤ acc) (h2 : 0 ≤ b) (h3 : b < 256) : bits .or .u16 (IntKind.u16.wrap (acc * 256)) b = (acc * 256) % 65536 + b := by
  rw [wrap_u16]
  exact bits_join .u16 16 (by decide) wraps_u16 8 _ _ (by omega) (by omega) (by omega) (by omega) (by omega) (by omega)
theorem and_lem8 (b : Int) (h2 : 0 ≤ b) (h3 : b < 65536) : bits .and .u16 b 255 = b % 256 := bits_mask .u16 16 (by decide) wraps_u16 8 (by decide) b h2 h3
theorem and_lem7 (b : Int) (h2 : 0 ≤ b) (h3 : b < 65536) : bits .and .u16 b 127 = b % 128 := bits_mask .u16 16 (by decide) wraps_u16 7 (by decide) b h2 h3

theorem emit_lem (acc : Int) (p r : Nat) (h0 : 0 ≤ acc) (h1 : acc < 65536) (hp : p = acc.toNat % 2 ^ r) (hr : 7 ≤ r) (hr2 : r ≤ 14) :
    bits .and .u16 (acc / 2 ^ (r - 7)) 127 % 256 = ((p / 2 ^ (r - 7) : Nat) : Int) ∧ ((p / 2 ^ (r - 7) : Nat) : Int) ≤ 255 ∧ p % 2 ^ (r - 7) = acc.toNat % 2 ^ (r - 7) := by
  have hr' : r = 7 ∨ r = 8 ∨ r = 9 ∨ r = 10 ∨ r = 11 ∨ r = 12 ∨ r = 13 ∨ r = 14 := by omega
  rcases hr' with rfl | rfl | rfl | rfl | rfl | rfl | rfl | rfl <;> (rw [and_lem7 _ (by omega) (by omega)]; simp only [Nat.reduceSub, Nat.reducePow, Int.reducePow] at *; omega)
theorem feed_lem (acc acc2 b : Int) (r : Nat) (h0 : 0 ≤ acc) (h1 : acc < 65536) (hb0 : 0 ≤ b) (hb1 : b ≤ 255) (h2 : acc2 = (acc * 256) % 65536 + b) (hr : r < 7) :
    acc2.toNat % 2 ^ (r + 8) = acc.toNat % 2 ^ r * 2 ^ 8 + b.toNat % 2 ^ 8 := by
  have hr' : r = 0 ∨ r = 1 ∨ r = 2 ∨ r = 3 ∨ r = 4 ∨ r = 5 ∨ r = 6 := by omega
  rcases hr' with rfl | rfl | rfl | rfl | rfl | rfl | rfl <;> (simp only [Nat.reduceAdd, Nat.reducePow] at *; omega)
theorem run_snoc (frm tt : Nat) (l : List Int) (j : Nat) (hj : j < l.length) : runM frm tt (l.take (j + 1)) = feedM frm tt (runM frm tt (l.take j)) (rd l j) := by
  rw [List.take_succ_eq_append_getElem hj, runM, List.foldl_append]
  simp [runM, rd, hj]

theorem last_lem (acc : Int) (r : Nat) (h0 : 0 ≤ acc) (h1 : acc < 65536) (hr0 : 0 < r) (hr : r < 7) :
    bits .and .u16 (IntKind.u16.wrap (acc * 2 ^ (7 - r))) 127 % 256 = ((acc.toNat % 2 ^ r * 2 ^ (7 - r) : Nat) : Int) ∧ ((acc.toNat % 2 ^ r * 2 ^ (7 - r) : Nat) : Int) ≤ 255 := by
  have hr' : r = 1 ∨ r = 2 ∨ r = 3 ∨ r = 4 ∨ r = 5 ∨ r = 6 := by omega
  rw [wrap_u16]
  rcases hr' with rfl | rfl | rfl | rfl | rfl | rfl <;> (rw [and_lem7 _ (by omega) (by omega)]; simp only [Nat.reduceSub, Nat.reducePow, Int.reducePow] at *; omega)

set_option maxHeartbeats 1000000 in
set_option maxRecDepth 100000 in
theorem shift1 (bx : Nat) (A0 : Option Addr) (c0 : Nat) (l0 : List Int) (w0 w : World) (hC : Cap w0 bx [] w) (hr0 : Kd.C (Kd.int .u8) w0 A0 l0.length l0) (hby : ∀ j : Nat, j < l0.length → 0 ≤ rd l0 j ∧ rd l0 j ≤ 255) (hl : l0.length ≤ 1099511627776) :
   Calls Try.prog 74 #[.slice A0 l0.length c0, .int .u64 8, .int .u64 7, .func (.func 75) #[] #[.pointer (some ⟨bx,0,none⟩)]] w fun e w' => e = .returned (.int .u64 (runM 8 7 l0).2.1) ∧ Cap w0 bx ((finM 7 (runM 8 7 l0)).map fun g => (128 + g) % 256) w' := by
  have HC := Aside0.mk hC
  have HR := Aside0.mk hr0
  have HBY := Aside0.mk hby
  clear hC hr0 hby
  go_enter Try.func74, Try.ntmps74
  go_wp2_with fail
  go_loopw [8, 9, 11, 14] (fun v8 v9 v11 v14 W => ∃ (j : Nat) (rest : Nat) (acc : Int) (out : List Int), v8 = .int .u64 rest ∧ v9 = .int .u16 acc ∧ v14 = .int .i64 j ∧ j ≤ l0.length ∧ rest < 7 ∧ 0 ≤ acc ∧ acc < 65536 ∧ Aside0 (runM 8 7 (l0.take j) = (acc.toNat % 2^rest, rest, out)) ∧ Aside0 (out.length ≤ 2 * j) ∧ Aside0 (Cap w0 bx (out.map fun g => (128 + g) % 256) W)) (fun _ _ _ v14 _ => l0.length - (intOf v14).toNat)
  case atStart => exact ⟨0, 0, 0, [], rfl, rfl, rfl, by omega, by omega, by omega, by omega, ⟨rfl⟩, ⟨by simp⟩, HC⟩
  case round =>
    obtain ⟨j, rest, acc, out, rfl, rfl, rfl, hj, hr2, ha1, ha2, HRUN, HLEN, HC⟩ := hrel
    by_cases hlt : j < l0.length
    · obtain ⟨v, hb, zi, HB0, hbx⟩ := HC.out
      obtain ⟨ad, hA, hcell⟩ := Kd.at_int (Kd.C_below HR.out HB0) (j : Int) (by omega) (by omega)
      rw [Int.toNat_natCast] at hcell
      clear hb zi HB0 hbx v
      subst hA
      obtain ⟨hb0, hb1⟩ := HBY.out j hlt
      obtain ⟨b, hbe⟩ : ∃ b, b = rd l0 j := ⟨_, rfl⟩
      rw [← hbe] at hcell hb0 hb1
      have HBE := Aside0.mk hbe
      clear hbe
      have hand : bits .and .u16 b 255 = b := by rw [and_lem8 b hb0 (by omega)]; omega
      have hor := or_lem acc b ha1 hb0 (by omega)
      obtain ⟨acc2, hacc2⟩ : ∃ acc2, acc2 = (acc * 256) % 65536 + b := ⟨_, rfl⟩
      rw [← hacc2] at hor
      have h20 : 0 ≤ acc2 := by omega
      have h21 : acc2 < 65536 := by omega
      have HACC := Aside0.mk hacc2
      clear hacc2
      go_wp2_with fail
      clear hor hand hcell
      go_loopw [8] (fun v8 W => ∃ (k p r : Nat) (o2 : List Int), v8 = .int .u64 r ∧ r < 7 * (k + 1) ∧ r ≤ 14 ∧ Aside0 (p = acc2.toNat % 2^r) ∧ Aside0 (o2.length + k ≤ 2 * j + 2) ∧ Aside0 (drainM 7 k p r o2 = runM 8 7 (l0.take (j+1))) ∧ Aside0 (Cap w0 bx (o2.map fun g => (128 + g) % 256) W)) (fun v8 _ => (intOf v8).toNat)
      case atStart => exact ⟨2, acc2.toNat % 2 ^ (rest + 8), rest + 8, out, by go_num, by omega, by omega, ⟨rfl⟩, ⟨by have := HLEN.out; omega⟩, ⟨by rw [run_snoc 8 7 l0 j hlt, HRUN.out, feedM, ← HBE.out, feed_lem acc acc2 b rest ha1 ha2 hb0 hb1 HACC.out (by omega)]⟩, HC⟩
      case round =>
        obtain ⟨k, p, r, o2, rfl, hrk, hr14, HP, HL2, HD, HC2⟩ := hrel
        by_cases hge : 7 ≤ r
        · obtain ⟨e1, e2, e3⟩ := emit_lem acc2 p r h20 h21 HP.out hge hr14
          obtain ⟨k, rfl⟩ : ∃ k', k = k' + 1 := ⟨k - 1, by omega⟩
          have HD2 := HD.out
          rw [drainM, if_pos hge] at HD2
          have E1 := Aside0.mk e1
          have E3 := Aside0.mk e3
          have HD3 := Aside0.mk HD2
          clear e1 e3 HD2
          go_wp2_with fail
          rw [E1.out]
          obtain ⟨q, hq⟩ : ∃ q : Nat, q = p / 2 ^ (r - 7) := ⟨_, rfl⟩
          have HQ := Aside0.mk hq
          rw [← hq]
          rw [← hq] at e2
          clear hq
          refine (pack1 bx _ q w0 _ HC2.out (by simp; have := HL2.out; omega) (by omega) e2).mono ?_
          rintro e W2 ⟨rfl, hc2⟩
          have HC3 := Aside0.mk hc2
          clear hc2
          go_wp2_with fail
          go_roundw
          case rel => exact ⟨k, p % 2 ^ (r - 7), r - 7, o2 ++ [(q : Int)], by go_num, by omega, by omega, E3, ⟨by have := HL2.out; simp; omega⟩, ⟨by rw [HQ.out]; exact HD3.out⟩, ⟨by simpa using HC3.out⟩⟩
          case measure => simp [intOf]; omega
        · have HD2 := HD.out
          have hd : drainM 7 k p r o2 = (p, r, o2) := by cases k with
            | zero => rfl
            | succ k => rw [drainM, if_neg hge]
          rw [hd] at HD2
          have HD3 := Aside0.mk HD2
          clear hd HD2
          go_wp2_with fail
          refine ⟨⟨j + 1, r, acc2, o2, rfl, rfl, by go_num, by omega, by omega, h20, h21, ⟨by rw [← HD3.out, HP.out]⟩, ⟨by have := HL2.out; omega⟩, HC2⟩, ?_⟩
          simp [intOf]; omega
    · have hj2 : l0.take j = l0 := List.take_of_length_le (by omega)
      have HR2 := HRUN.out
      rw [hj2] at HR2
      have HR3 := Aside0.mk HR2
      clear hj2 HR2 HRUN
      by_cases hz : rest = 0
      · subst hz
        go_wp2_with fail
        go_ret
        exact ⟨by rw [HR3.out]; rfl, by rw [HR3.out]; exact HC.out⟩
      · obtain ⟨e1, e2⟩ := last_lem acc rest ha1 ha2 (by omega) hr2
        obtain ⟨q, hq⟩ : ∃ q : Nat, q = acc.toNat % 2 ^ rest * 2 ^ (7 - rest) := ⟨_, rfl⟩
        rw [← hq] at e1 e2
        have HQ := Aside0.mk hq
        have E1 := Aside0.mk e1
        clear hq e1
        go_wp2_with fail
        rw [E1.out]
        refine (pack1 bx _ q w0 _ HC.out (by simp; have := HLEN.out; omega) (by omega) e2).mono ?_
        rintro e W2 ⟨rfl, hc2⟩
        have HC3 := Aside0.mk hc2
        clear hc2
        go_wp2_with fail
        go_ret
        exact ⟨by rw [HR3.out]; rfl, by rw [HR3.out, finM, if_pos (by show 0 < rest; omega), ← HQ.out]; simpa using HC3.out⟩

def packM (l0 : List Int) : List Int := (finM 7 (runM 8 7 l0)).map fun g => (128 + g) % 256
def okBytes (l : List Int) : Bool := l.all fun x => decide (0 ≤ x ∧ x ≤ 255)
def impl_Pack.f (l0 : List Int) : Option (List Int) := if okBytes l0 = true ∧ l0.length ≤ 1099511627776 then some (packM l0) else none
theorem okBytes_rd {l : List Int} (h : okBytes l = true) (j : Nat) (hj : j < l.length) : 0 ≤ rd l j ∧ rd l j ≤ 255 := by
  unfold okBytes at h
  rw [List.all_eq_true] at h
  have := h l[j] (List.getElem_mem hj)
  simpa [rd, hj] using this
set_option maxHeartbeats 1000000 in
set_option maxRecDepth 100000 in
theorem impl_Pack.calls (A0 : Option Addr) (c0 : Nat) (l0 : List Int) (r : List Int) (w : World) (hr0 : Kd.C (Kd.int .u8) w A0 l0.length l0) (hc0 : l0.length ≤ c0) (h : impl_Pack.f l0 = some r) :
    Calls Try.prog 50 #[.slice A0 l0.length c0] w fun e w' => ∃ v0_ : Value, e = .returned (v0_) ∧ Kd.R (Kd.int .u8) 5 w' w.heap.size (fun _ => True) v0_ r ∧ Below w.heap.size w w' := by
  unfold impl_Pack.f at h
  obtain ⟨⟨hok, hlen⟩, rfl⟩ : (okBytes l0 = true ∧ l0.length ≤ 1099511627776) ∧ packM l0 = r := by
    split at h
    · exact ⟨‹_›, Option.some.inj h⟩
    · cases h
  clear h
  have HOK := Aside0.mk hok
  have HR0 := Aside0.mk hr0
  clear hok hr0
  have hmf : ∀ (fn : Fn) (first cap : Array Value) (w : World), (Instr.makeFunc fn first cap).run Try.prog w = .ok (.func fn first cap) w := fun _ _ _ _ => rfl
  go_enter Try.func50, Try.ntmps50
  go_wp2_with fail
  refine (shift1 w.heap.size A0 c0 l0 w _ ⟨_, blk_new w (.cells #[.slice none 0 0] 22), Kd.R_nil _ _ _ _ _, zc (Below.refl _ _) _, Nat.le_refl _⟩ HR0.out (okBytes_rd HOK.out) hlen).mono ?_
  rintro e W ⟨rfl, hcap⟩
  have hcap2 : Cap w w.heap.size (packM l0) W := hcap
  clear hcap
  obtain ⟨ys, hys⟩ : ∃ ys, ys = packM l0 := ⟨_, rfl⟩
  rw [← hys] at hcap2
  have HY := Aside0.mk hys
  clear hys
  obtain ⟨v, hb, HO, HB, hbx⟩ := hcap2
  have hc : W.cell? ⟨w.heap.size, 0, none⟩ = some v := (blk_cell hb 0).trans rfl
  have zi := Aside0.mk HO
  have HB2 := Aside0.mk HB
  obtain ⟨Ao2, co2, eo2⟩ := Kd.R_slice zi.out
  subst eo2
  clear hb HO HB
  go_wp2
  go_ret
  exact ⟨_, rfl, by rw [← HY.out]; exact zi.out, HB2.out⟩

def bytes_Equal.f (l0 : List Int) (l1 : List Int) : Option (Bool) := some ((strOfNums l0).toList == (strOfNums l1).toList)
set_option maxHeartbeats 8000000 in
set_option maxRecDepth 100000 in
theorem bytes_Equal.calls (A0 : Option Addr) (c0 : Nat) (l0 : List Int) (A1 : Option Addr) (c1 : Nat) (l1 : List Int) (r : Bool) (w : World) (hr0 : Kd.C (Kd.int .u8) w A0 l0.length l0) (hc0 : l0.length ≤ c0) (hr1 : Kd.C (Kd.int .u8) w A1 l1.length l1) (hc1 : l1.length ≤ c1) (h : bytes_Equal.f l0 l1 = some r) :
    Calls Try.prog 81 #[.slice A0 l0.length c0, .slice A1 l1.length c1] w fun e w' => e = .returned (.bool r) ∧ Drawn0 w w' := by
  have HR0 := Aside0.mk hr0
  have HC0 := Aside0.mk hc0
  clear hr0 hc0
  have HR1 := Aside0.mk hr1
  have HC1 := Aside0.mk hc1
  clear hr1 hc1
  have H : (some ((strOfNums l0).toList == (strOfNums l1).toList)) = some r := h
  clear h
  obtain rfl := Option.some.inj H
  have hcv3 := Kd.C_string (P := Try.prog) (A := A0) (c := c0) Try.underlying22 Try.underlying5 Try.underlying9 HR0.out
  have hcv4 := Kd.C_string (P := Try.prog) (A := A1) (c := c1) Try.underlying22 Try.underlying5 Try.underlying9 HR1.out
  go_enter Try.func81, Try.ntmps81
  go_wp2
  go_ret
  exact ⟨by first | rfl | (simp; done) | (simp [*]; done), by repeat (first | exact Drawn0.refl _ | apply Drawn0.step)⟩

set_option maxHeartbeats 1000000 in
set_option maxRecDepth 100000 in
theorem unpack1 (bx : Nat) (xs : List Int) (g : Int) (w0 w : World) (hC : Cap w0 bx xs w) (hl : xs.length + 1 ≤ 140737488355328) (h0: 0 ≤ g) (h1 : g ≤ 255) :
   Calls Try.prog 80 #[.int .u8 g, .pointer (some ⟨bx,0,none⟩)] w fun e w' => e = .returned (.tuple #[]) ∧ Cap w0 bx (xs ++ [g]) w' := by
  obtain ⟨v, hb, zj, HB0, hbx⟩ := hC
  have HB := Aside0.mk HB0
  have HO := Aside0.mk zj
  have BK := Aside0.mk hb
  have HL := Aside0.mk hl
  clear HB0 zj hl
  have hc : w.cell? ⟨bx, 0, none⟩ = some v := (blk_cell BK.out 0).trans rfl
  have hf := blk_frozen BK.out 0
  clear hb
  go_enter Try.func80, Try.ntmps80
  go_wp2_with (((with_reducible refine zg (b := .append) (xs := #[.tmp 3, .tmp 5]) rfl ?_); at_builtin; refine Kd.R_append (Kd.int .u8) (w0 := w0) w0.heap.size rfl (.tmp 3) (.tmp 5) 22 5 (.int .u8 0) 1 rfl Try.underlying22 info5 rfl (by decide) (by omega) v xs (g) [.int .u8 (g)] (fun _ => True) (fun _ => False) rfl rfl ?aP (fun _ hk => hk.elim) ?aF ?aO ?aB ?aS ?aL ?_; (case aP => exact rfl); (case aB => exact HB.out); (case aF => exact (fun _ _ => trivial)); (case aO => exact HO.out); (case aS => exact HB.out.size); (case aL => have := HL.out; omega); intro v116 w12 ho hb2 hg hat; have zk := Aside0.mk ho; have HB2 := Aside0.mk hb2; have HG := Aside0.mk hg; have zi := Aside0.mk (blk_grown BK.out hg (Kd.R_ne HO.out BK.out (by decide))); have hc2 : w12.cell? ⟨bx, 0, none⟩ = some v := (blk_cell zi.out 0).trans rfl; obtain ⟨Ao2, co2, eo2⟩ := Kd.R_slice zk.out; subst eo2; have hf2 := blk_frozen zi.out 0; clear hc hf BK HO HB ho hb2 hg hat))
  go_end0
  have zl := zk.out
  rw [show (xs ++ [g]).length = xs.length + 1 from by simp] at zl
  exact ⟨rfl, .slice Ao2 (xs.length + 1) co2, blk_set zi.out 0 _, Kd.R_set zl zi.out (by decide) 0 _, below_set HB2.out hbx, hbx⟩


theorem or_lemU (acc b : Int) (h0 : 0 ≤ acc) (h2 : 0 ≤ b) (h3 : b < 128) : bits .or .u16 (IntKind.u16.wrap (acc * 128)) b = (acc * 128) % 65536 + b := by
  rw [wrap_u16]
  exact bits_join .u16 16 (by decide) wraps_u16 7 _ _ (by omega) (by omega) (by omega) (by omega) (by omega) (by omega)
theorem emit_lemU (acc : Int) (p r : Nat) (h0 : 0 ≤ acc) (h1 : acc < 65536) (hp : p = acc.toNat % 2 ^ r) (hr : 8 ≤ r) (hr2 : r ≤ 14) :
    bits .and .u16 (acc / 2 ^ (r - 8)) 255 % 256 = ((p / 2 ^ (r - 8) : Nat) : Int) ∧ ((p / 2 ^ (r - 8) : Nat) : Int) ≤ 255 ∧ p % 2 ^ (r - 8) = acc.toNat % 2 ^ (r - 8) := by
  have hr' : r = 8 ∨ r = 9 ∨ r = 10 ∨ r = 11 ∨ r = 12 ∨ r = 13 ∨ r = 14 := by omega
  rcases hr' with rfl | rfl | rfl | rfl | rfl | rfl | rfl <;> (rw [and_lem8 _ (by omega) (by omega)]; simp only [Nat.reduceSub, Nat.reducePow, Int.reducePow] at *; omega)
theorem feed_lemU (acc acc2 b : Int) (r : Nat) (h0 : 0 ≤ acc) (h1 : acc < 65536) (hb0 : 0 ≤ b) (hb1 : b ≤ 255) (h2 : acc2 = (acc * 128) % 65536 + b % 128) (hr : r < 8) :
    acc2.toNat % 2 ^ (r + 7) = acc.toNat % 2 ^ r * 2 ^ 7 + b.toNat % 2 ^ 7 := by
  have hr' : r = 0 ∨ r = 1 ∨ r = 2 ∨ r = 3 ∨ r = 4 ∨ r = 5 ∨ r = 6 ∨ r = 7 := by omega
  rcases hr' with rfl | rfl | rfl | rfl | rfl | rfl | rfl | rfl <;> (simp only [Nat.reduceAdd, Nat.reducePow] at *; omega)
theorem last_lemU (acc : Int) (r : Nat) (h0 : 0 ≤ acc) (h1 : acc < 65536) (hr0 : 0 < r) (hr : r < 8) :
    bits .and .u16 (IntKind.u16.wrap (acc * 2 ^ (8 - r))) 255 % 256 = ((acc.toNat % 2 ^ r * 2 ^ (8 - r) : Nat) : Int) ∧ ((acc.toNat % 2 ^ r * 2 ^ (8 - r) : Nat) : Int) ≤ 255 := by
  have hr' : r = 1 ∨ r = 2 ∨ r = 3 ∨ r = 4 ∨ r = 5 ∨ r = 6 ∨ r = 7 := by omega
  rw [wrap_u16]
  rcases hr' with rfl | rfl | rfl | rfl | rfl | rfl | rfl <;> (rw [and_lem8 _ (by omega) (by omega)]; simp only [Nat.reduceSub, Nat.reducePow, Int.reducePow] at *; omega)
theorem okBytes_snoc {l : List Int} {x : Int} (h : okBytes l = true) (h0 : 0 ≤ x) (h1 : x ≤ 255) : okBytes (l ++ [x]) = true := by
  unfold okBytes at *; rw [List.all_append, h]; simp; omega
set_option maxHeartbeats 1000000 in
set_option maxRecDepth 100000 in
theorem shiftU (bx : Nat) (A0 : Option Addr) (c0 : Nat) (l0 : List Int) (w0 w : World) (hC : Cap w0 bx [] w) (hr0 : Kd.C (Kd.int .u8) w0 A0 l0.length l0) (hby : ∀ j : Nat, j < l0.length → 0 ≤ rd l0 j ∧ rd l0 j ≤ 255) (hl : l0.length ≤ 1099511627776) :
   Calls Try.prog 74 #[.slice A0 l0.length c0, .int .u64 7, .int .u64 8, .func (.func 80) #[] #[.pointer (some ⟨bx,0,none⟩)]] w fun e w' => e = .returned (.int .u64 (runM 7 8 l0).2.1) ∧ okBytes (runM 7 8 l0).2.2 = true ∧ (runM 7 8 l0).2.2.length ≤ 2 * l0.length ∧ Cap w0 bx ((finM 8 (runM 7 8 l0))) w' := by
  have HC := Aside0.mk hC
  have HR := Aside0.mk hr0
  have HBY := Aside0.mk hby
  clear hC hr0 hby
  go_enter Try.func74, Try.ntmps74
  go_wp2_with fail
  go_loopw [8, 9, 11, 14] (fun v8 v9 v11 v14 W => ∃ (j : Nat) (rest : Nat) (acc : Int) (out : List Int), v8 = .int .u64 rest ∧ v9 = .int .u16 acc ∧ v14 = .int .i64 j ∧ j ≤ l0.length ∧ rest < 8 ∧ 0 ≤ acc ∧ acc < 65536 ∧ Aside0 (runM 7 8 (l0.take j) = (acc.toNat % 2^rest, rest, out)) ∧ Aside0 (out.length ≤ 2 * j ∧ okBytes out = true) ∧ Aside0 (Cap w0 bx out W)) (fun _ _ _ v14 _ => l0.length - (intOf v14).toNat)
  case atStart => exact ⟨0, 0, 0, [], rfl, rfl, rfl, by omega, by omega, by omega, by omega, ⟨rfl⟩, ⟨by simp, rfl⟩, HC⟩
  case round =>
    obtain ⟨j, rest, acc, out, rfl, rfl, rfl, hj, hr2, ha1, ha2, HRUN, HLEN, HC⟩ := hrel
    by_cases hlt : j < l0.length
    · obtain ⟨v, hb, zi, HB0, hbx⟩ := HC.out
      obtain ⟨ad, hA, hcell⟩ := Kd.at_int (Kd.C_below HR.out HB0) (j : Int) (by omega) (by omega)
      rw [Int.toNat_natCast] at hcell
      clear hb zi HB0 hbx v
      subst hA
      obtain ⟨hb0, hb1⟩ := HBY.out j hlt
      obtain ⟨b, hbe⟩ : ∃ b, b = rd l0 j := ⟨_, rfl⟩
      rw [← hbe] at hcell hb0 hb1
      have HBE := Aside0.mk hbe
      clear hbe
      obtain ⟨b2, hb2e⟩ : ∃ b2, b2 = b % 128 := ⟨_, rfl⟩
      have hand : bits .and .u16 b 127 = b2 := by rw [and_lem7 b hb0 (by omega)]; omega
      have hor := or_lemU acc b2 ha1 (by omega) (by omega)
      obtain ⟨acc2, hacc2⟩ : ∃ acc2, acc2 = (acc * 128) % 65536 + b2 := ⟨_, rfl⟩
      rw [← hacc2] at hor
      have h20 : 0 ≤ acc2 := by omega
      have h21 : acc2 < 65536 := by omega
      have hacc3 : acc2 = (acc * 128) % 65536 + b % 128 := by omega
      have HACC := Aside0.mk hacc3
      clear hacc2 hacc3 hb2e
      go_wp2_with fail
      clear hor hand hcell
      go_loopw [8] (fun v8 W => ∃ (k p r : Nat) (o2 : List Int), v8 = .int .u64 r ∧ r < 8 * (k + 1) ∧ r ≤ 14 ∧ Aside0 (p = acc2.toNat % 2^r) ∧ Aside0 (o2.length + k ≤ 2 * j + 2 ∧ okBytes o2 = true) ∧ Aside0 (drainM 8 k p r o2 = runM 7 8 (l0.take (j+1))) ∧ Aside0 (Cap w0 bx o2 W)) (fun v8 _ => (intOf v8).toNat)
      case atStart => exact ⟨2, acc2.toNat % 2 ^ (rest + 7), rest + 7, out, by go_num, by omega, by omega, ⟨rfl⟩, ⟨by have := HLEN.out.1; omega, HLEN.out.2⟩, ⟨by rw [run_snoc 7 8 l0 j hlt, HRUN.out, feedM, ← HBE.out, feed_lemU acc acc2 b rest ha1 ha2 hb0 hb1 HACC.out (by omega)]⟩, HC⟩
      case round =>
        obtain ⟨k, p, r, o2, rfl, hrk, hr14, HP, HL2, HD, HC2⟩ := hrel
        by_cases hge : 8 ≤ r
        · obtain ⟨e1, e2, e3⟩ := emit_lemU acc2 p r h20 h21 HP.out hge hr14
          obtain ⟨k, rfl⟩ : ∃ k', k = k' + 1 := ⟨k - 1, by omega⟩
          have HD2 := HD.out
          rw [drainM, if_pos hge] at HD2
          have E1 := Aside0.mk e1
          have E3 := Aside0.mk e3
          have HD3 := Aside0.mk HD2
          clear e1 e3 HD2
          go_wp2_with fail
          rw [E1.out]
          obtain ⟨q, hq⟩ : ∃ q : Nat, q = p / 2 ^ (r - 8) := ⟨_, rfl⟩
          have HQ := Aside0.mk hq
          rw [← hq]
          rw [← hq] at e2
          clear hq
          refine (unpack1 bx _ q w0 _ HC2.out (by simp; have := HL2.out.1; omega) (by omega) e2).mono ?_
          rintro e W2 ⟨rfl, hc2⟩
          have HC3 := Aside0.mk hc2
          clear hc2
          go_wp2_with fail
          go_roundw
          case rel => exact ⟨k, p % 2 ^ (r - 8), r - 8, o2 ++ [(q : Int)], by go_num, by omega, by omega, E3, ⟨by have := HL2.out.1; simp; omega, okBytes_snoc HL2.out.2 (by omega) e2⟩, ⟨by rw [HQ.out]; exact HD3.out⟩, ⟨by simpa using HC3.out⟩⟩
          case measure => simp [intOf]; omega
        · have HD2 := HD.out
          have hd : drainM 8 k p r o2 = (p, r, o2) := by cases k with
            | zero => rfl
            | succ k => rw [drainM, if_neg hge]
          rw [hd] at HD2
          have HD3 := Aside0.mk HD2
          clear hd HD2
          go_wp2_with fail
          refine ⟨⟨j + 1, r, acc2, o2, rfl, rfl, by go_num, by omega, by omega, h20, h21, ⟨by rw [← HD3.out, HP.out]⟩, ⟨by have := HL2.out.1; omega, HL2.out.2⟩, HC2⟩, ?_⟩
          simp [intOf]; omega
    · have hj2 : l0.take j = l0 := List.take_of_length_le (by omega)
      have HR2 := HRUN.out
      rw [hj2] at HR2
      have HR3 := Aside0.mk HR2
      clear hj2 HR2 HRUN
      by_cases hz : rest = 0
      · subst hz
        go_wp2_with fail
        go_ret
        exact ⟨by rw [HR3.out]; rfl, by rw [HR3.out]; exact HLEN.out.2, by rw [HR3.out]; have := HLEN.out.1; show out.length ≤ _; omega, by rw [HR3.out]; exact HC.out⟩
      · obtain ⟨e1, e2⟩ := last_lemU acc rest ha1 ha2 (by omega) hr2
        obtain ⟨q, hq⟩ : ∃ q : Nat, q = acc.toNat % 2 ^ rest * 2 ^ (8 - rest) := ⟨_, rfl⟩
        rw [← hq] at e1 e2
        have HQ := Aside0.mk hq
        have E1 := Aside0.mk e1
        clear hq e1
        go_wp2_with fail
        rw [E1.out]
        refine (unpack1 bx _ q w0 _ HC.out (by simp; have := HLEN.out.1; omega) (by omega) e2).mono ?_
        rintro e W2 ⟨rfl, hc2⟩
        have HC3 := Aside0.mk hc2
        clear hc2
        go_wp2_with fail
        go_ret
        exact ⟨by rw [HR3.out]; rfl, by rw [HR3.out]; exact HLEN.out.2, by rw [HR3.out]; have := HLEN.out.1; show out.length ≤ _; omega, by rw [HR3.out, finM, if_pos (by show 0 < rest; omega), ← HQ.out]; simpa using HC3.out⟩

theorem okBytes_pack (l : List Int) : okBytes (packM l) = true := by
  unfold okBytes packM; rw [List.all_eq_true]; intro x hx
  obtain ⟨g, _, rfl⟩ := List.mem_map.1 hx
  simp only [decide_eq_true_eq]; omega
theorem strs_eq (a b : List Int) (ha : okBytes a = true) (hb : okBytes b = true) : ((strOfNums a).toList == (strOfNums b).toList) = decide (a = b) := by
  by_cases h : a = b
  · subst h; simp
  · rw [decide_eq_false h, beq_eq_false_iff_ne, Lib.strOfNums_toList, Lib.strOfNums_toList]
    intro he
    apply h
    have hlen : a.length = b.length := by simpa [Lib.bytesOf] using congrArg List.length he
    apply List.ext_getElem hlen
    intro n h1 h2
    have e := congrArg (fun l => l[n]?) he
    simp only [Lib.bytesOf, List.getElem?_map, List.getElem?_eq_getElem h1, List.getElem?_eq_getElem h2, Option.map_some, Option.some.injEq] at e
    unfold okBytes at ha hb
    rw [List.all_eq_true] at ha hb
    have ha1 := ha a[n] (List.getElem_mem h1)
    have hb1 := hb b[n] (List.getElem_mem h2)
    simp only [decide_eq_true_eq] at ha1 hb1
    have e2 := congrArg UInt8.toNat e
    simp at e2
    omega
theorem below_lower {w W : World} {o : Obj} (h : Below (w.alloc o).heap.size (w.alloc o) W) : Below (w.alloc o).heap.size (w.alloc o) W := h
def unpackM (l0 : List Int) : List Int := if packM (runM 7 8 l0).2.2 = l0 then (runM 7 8 l0).2.2 else []
def impl_Unpack.f (l0 : List Int) : Option (List Int) := if okBytes l0 = true ∧ l0.length ≤ 549755813888 then some (unpackM l0) else none
set_option maxHeartbeats 1000000 in
set_option maxRecDepth 100000 in
theorem impl_Unpack.calls (A0 : Option Addr) (c0 : Nat) (l0 : List Int) (r : List Int) (w : World) (hr0 : Kd.C (Kd.int .u8) w A0 l0.length l0) (hc0 : l0.length ≤ c0) (h : impl_Unpack.f l0 = some r) :
    Calls Try.prog 63 #[.slice A0 l0.length c0] w fun e w' => ∃ v0_ : Value, e = .returned (.agg #[v0_]) ∧ Kd.R (Kd.int .u8) 5 w' w.heap.size (fun _ => True) v0_ r ∧ Below w.heap.size w w' := by
  unfold impl_Unpack.f at h
  obtain ⟨⟨hok, hlen⟩, rfl⟩ : (okBytes l0 = true ∧ l0.length ≤ 549755813888) ∧ unpackM l0 = r := by
    split at h
    · exact ⟨‹_›, Option.some.inj h⟩
    · cases h
  clear h
  have HOK := Aside0.mk hok
  have HR0 := Aside0.mk hr0
  clear hok hr0
  have hmf : ∀ (fn : Fn) (first cap : Array Value) (w : World), (Instr.makeFunc fn first cap).run Try.prog w = .ok (.func fn first cap) w := fun _ _ _ _ => rfl
  go_enter Try.func63, Try.ntmps63
  go_wp2_with fail
  have hb1 := blk_new (w.alloc (.cells #[.slice none 0 0] 50)) (.cells #[.slice none 0 0] 22)
  rw [World.size_alloc] at hb1
  refine (shiftU (w.heap.size + 1) A0 c0 l0 (w.alloc (.cells #[.slice none 0 0] 50)) _ ⟨_, hb1, Kd.R_nil _ _ _ _ _, zc (Below.refl _ _) _, by simp⟩ (Kd.C_below HR0.out (zc (Below.refl _ _) _)) (okBytes_rd HOK.out) (by omega)).mono ?_
  rintro e W ⟨rfl, hoo, hol, hcap⟩
  clear hb1
  obtain ⟨o, ho⟩ : ∃ o, o = (runM 7 8 l0).2.2 := ⟨_, rfl⟩
  obtain ⟨rr, hrr⟩ : ∃ rr, rr = (runM 7 8 l0).2.1 := ⟨_, rfl⟩
  obtain ⟨q, hq⟩ : ∃ q : Int, q = (((runM 7 8 l0).1 * 2 ^ (8 - (runM 7 8 l0).2.1) : Nat) : Int) := ⟨_, rfl⟩
  have hum : unpackM l0 = if packM o = l0 then o else [] := by rw [unpackM, ← ho]
  unfold finM at hcap
  rw [← hq] at hcap
  rw [← ho, ← hrr] at hcap
  rw [← ho] at hoo hol
  rw [← hrr]
  have HUM := Aside0.mk hum
  have HOO := Aside0.mk hoo
  clear hum hq ho hrr hoo
  by_cases hz : rr = 0
  · subst hz
    rw [if_neg (by omega)] at hcap
    obtain ⟨v, hb, HO, HB, hbx⟩ := hcap
    have hc : W.cell? ⟨w.heap.size + 1, 0, none⟩ = some v := (blk_cell hb 0).trans rfl
    obtain ⟨Ao, co, eo, hlo, hCo⟩ := Kd.R_reads HO
    subst eo
    have BK := Aside0.mk hb
    have zi := Aside0.mk HO
    have HB2 := Aside0.mk HB
    have HCO := Aside0.mk hCo
    clear hb HO HB hCo
    have hpk : okBytes (packM o) = true := okBytes_pack o
    have HPK := Aside0.mk hpk
    clear hpk
    have hb33 := HB2.out.block w.heap.size (by simp)
    have RB := Aside0.mk (hb33.trans (blk_new w (.cells #[.slice none 0 0] 50)))
    clear hb33
    go_wp2_with fail
    refine (impl_Pack.calls Ao co o (packM o) _ HCO.out hlo (by unfold impl_Pack.f; rw [if_pos ⟨HOO.out, by omega⟩])).mono ?_
    rintro e W3 ⟨v3, rfl, hv3, hb3⟩
    obtain ⟨A3, c3, e3, hl3, hC3⟩ := Kd.R_reads hv3
    subst e3
    have RB3 := Aside0.mk (blk_below RB.out hb3)
    have zj := Aside0.mk (blk_below BK.out hb3)
    have zk := Aside0.mk (Kd.R_below zi.out hb3)
    have HB3 := Aside0.mk (below_then HB2.out HB2.out.size hb3)
    have HC3 := Aside0.mk hC3
    have hc3b : W3.cell? ⟨w.heap.size + 1, 0, none⟩ = some (.slice Ao o.length co) := (blk_cell zj.out 0).trans rfl
    have hr3 : W3.cell? ⟨w.heap.size, 0, none⟩ = some (.slice none 0 0) := (blk_cell RB3.out 0).trans rfl
    have hr3f := blk_frozen RB3.out 0
    obtain ⟨pk, hpke⟩ : ∃ pk, pk = packM o := ⟨_, rfl⟩
    rw [← hpke] at HC3 hl3 HPK
    have HUM2 := HUM.out
    rw [← hpke] at HUM2
    rw [← hpke]
    have HUM3 := Aside0.mk HUM2
    clear hc hv3 hb3 hC3 RB BK zi HB2 hpke HUM HUM2
    go_wp2_with fail
    have heb := strs_eq pk l0 HPK.out HOK.out
    refine (bytes_Equal.calls A3 c3 pk A0 c0 l0 _ W3 HC3.out hl3 (Kd.C_below HR0.out (below_then (zc (Below.refl _ _) _) (by simp) (below_lower HB3.out))) hc0 rfl).mono ?_
    rintro e W4 ⟨rfl, ⟨n4, rfl⟩⟩
    rw [heb]
    clear heb
    by_cases heq : pk = l0
    · rw [decide_eq_true heq]
      have HUM4 := HUM3.out
      rw [if_pos heq] at HUM4
      have HU := Aside0.mk HUM4
      clear HUM3 HUM4 heq
      go_wp2
      refine bodyPost_ret (results_cell_row rfl _ _ w.heap.size 50 #[.slice Ao o.length co] (0, 0) _ rfl (blk_put (cs := #[.slice none 0 0]) (blk_drewN RB3.out n4) 0 _ rfl) Try.underlying50 rfl (by kernel_rfl)) rfl ?_
      exact ⟨_, rfl, by rw [HU.out]; exact Kd.R_lower (Kd.R_mono (Kd.R_far (p := ⟨w.heap.size, 0, none⟩) (Kd.R_types (Kd.R_drewN zk.out n4) (blk_drewN RB3.out n4) (by decide)) (fun _ hk => hk.2) _) (fun _ hk => trivial)) (by simp), below_set (zb (below_then (zc (Below.refl w.heap.size w) (.cells #[.slice none 0 0] 50)) (by simp) HB3.out) n4) (Nat.le_refl _)⟩
    · rw [decide_eq_false heq]
      have HUM4 := HUM3.out
      rw [if_neg heq] at HUM4
      have HU := Aside0.mk HUM4
      clear HUM3 HUM4 heq
      go_wp2
      refine bodyPost_ret (results_cell_row rfl _ _ w.heap.size 50 #[.slice none 0 0] (0, 0) _ rfl (blk_put (cs := #[.slice none 0 0]) (blk_drewN RB3.out n4) 0 _ rfl) Try.underlying50 rfl (by kernel_rfl)) rfl ?_
      exact ⟨_, rfl, by rw [HU.out]; exact Kd.R_nil _ _ _ _ _, below_set (zb (below_then (zc (Below.refl w.heap.size w) (.cells #[.slice none 0 0] 50)) (by simp) HB3.out) n4) (Nat.le_refl _)⟩
  · rw [if_pos (by omega)] at hcap
    obtain ⟨v, hb, HO, HB, hbx⟩ := hcap
    have hc : W.cell? ⟨w.heap.size + 1, 0, none⟩ = some v := (blk_cell hb 0).trans rfl
    obtain ⟨Ao, co, eo, hlo, hCo⟩ := Kd.R_reads HO
    subst eo
    have BK := Aside0.mk hb
    have zi := Aside0.mk HO
    have HB2 := Aside0.mk HB
    have HCO := Aside0.mk hCo
    clear hb HO HB hCo
    have hf := blk_frozen BK.out 0
    have hpos : 0 < rr := by omega
    have hlo2 : o.length + 1 ≤ co := by simpa using hlo
    clear hlo
    go_wp2_with fail
    have HO3' := Kd.R_take zi.out (m := o.length) (by simp)
    rw [List.take_left' rfl] at HO3'
    have hne : ∀ (x : Value), Kd.R (Kd.int .u8) 5 (W.setCell ⟨w.heap.size + 1, 0, none⟩ x) (w.alloc (.cells #[.slice none 0 0] 50)).heap.size (fun _ => True) (.slice Ao o.length co) o := fun x => Kd.R_set HO3' BK.out (by decide) 0 x
    have hbk := blk_set BK.out 0 (.slice Ao o.length co)
    have hbl : Below (w.alloc (.cells #[.slice none 0 0] 50)).heap.size (w.alloc (.cells #[.slice none 0 0] 50)) (W.setCell ⟨w.heap.size + 1, 0, none⟩ (.slice Ao o.length co)) := below_set HB2.out (by simp)
    have hro := hne (.slice Ao o.length co)
    clear hne HO3' BK zi HB2 HCO hc hf
    generalize W.setCell ⟨w.heap.size + 1, 0, none⟩ (.slice Ao o.length co) = W2 at *
    clear W
    rename World => W
    obtain ⟨_, _, eo, hlo, hCo⟩ := Kd.R_reads hro
    injection eo with e1 _ e2
    subst e1 e2
    have hc : W.cell? ⟨w.heap.size + 1, 0, none⟩ = some (.slice Ao o.length co) := (blk_cell hbk 0).trans rfl
    have BK : Aside0 (W.heap[w.heap.size + 1]? = some (.cells #[.slice Ao o.length co] 22 (0, 0))) := Aside0.mk hbk
    have zi := Aside0.mk hro
    have HB2 := Aside0.mk hbl
    have HCO := Aside0.mk hCo
    clear hbk hro hbl hCo
    have hpk : okBytes (packM o) = true := okBytes_pack o
    have HPK := Aside0.mk hpk
    clear hpk
    have hb33 := HB2.out.block w.heap.size (by simp)
    have RB := Aside0.mk (hb33.trans (blk_new w (.cells #[.slice none 0 0] 50)))
    clear hb33
    refine (impl_Pack.calls Ao co o (packM o) _ HCO.out hlo (by unfold impl_Pack.f; rw [if_pos ⟨HOO.out, by omega⟩])).mono ?_
    rintro e W3 ⟨v3, rfl, hv3, hb3⟩
    obtain ⟨A3, c3, e3, hl3, hC3⟩ := Kd.R_reads hv3
    subst e3
    have RB3 := Aside0.mk (blk_below RB.out hb3)
    have zj := Aside0.mk (blk_below BK.out hb3)
    have zk := Aside0.mk (Kd.R_below zi.out hb3)
    have HB3 := Aside0.mk (below_then HB2.out HB2.out.size hb3)
    have HC3 := Aside0.mk hC3
    have hc3b : W3.cell? ⟨w.heap.size + 1, 0, none⟩ = some (.slice Ao o.length co) := (blk_cell zj.out 0).trans rfl
    have hr3 : W3.cell? ⟨w.heap.size, 0, none⟩ = some (.slice none 0 0) := (blk_cell RB3.out 0).trans rfl
    have hr3f := blk_frozen RB3.out 0
    obtain ⟨pk, hpke⟩ : ∃ pk, pk = packM o := ⟨_, rfl⟩
    rw [← hpke] at HC3 hl3 HPK
    have HUM2 := HUM.out
    rw [← hpke] at HUM2
    rw [← hpke]
    have HUM3 := Aside0.mk HUM2
    clear hc hv3 hb3 hC3 RB BK zi HB2 hpke HUM HUM2
    go_wp2_with fail
    have heb := strs_eq pk l0 HPK.out HOK.out
    refine (bytes_Equal.calls A3 c3 pk A0 c0 l0 _ W3 HC3.out hl3 (Kd.C_below HR0.out (below_then (zc (Below.refl _ _) _) (by simp) (below_lower HB3.out))) hc0 rfl).mono ?_
    rintro e W4 ⟨rfl, ⟨n4, rfl⟩⟩
    rw [heb]
    clear heb
    by_cases heq : pk = l0
    · rw [decide_eq_true heq]
      have HUM4 := HUM3.out
      rw [if_pos heq] at HUM4
      have HU := Aside0.mk HUM4
      clear HUM3 HUM4 heq
      go_wp2
      refine bodyPost_ret (results_cell_row rfl _ _ w.heap.size 50 #[.slice Ao o.length co] (0, 0) _ rfl (blk_put (cs := #[.slice none 0 0]) (blk_drewN RB3.out n4) 0 _ rfl) Try.underlying50 rfl (by kernel_rfl)) rfl ?_
      exact ⟨_, rfl, by rw [HU.out]; exact Kd.R_lower (Kd.R_mono (Kd.R_far (p := ⟨w.heap.size, 0, none⟩) (Kd.R_types (Kd.R_drewN zk.out n4) (blk_drewN RB3.out n4) (by decide)) (fun _ hk => hk.2) _) (fun _ hk => trivial)) (by simp), below_set (zb (below_then (zc (Below.refl w.heap.size w) (.cells #[.slice none 0 0] 50)) (by simp) HB3.out) n4) (Nat.le_refl _)⟩
    · rw [decide_eq_false heq]
      have HUM4 := HUM3.out
      rw [if_neg heq] at HUM4
      have HU := Aside0.mk HUM4
      clear HUM3 HUM4 heq
      go_wp2
      refine bodyPost_ret (results_cell_row rfl _ _ w.heap.size 50 #[.slice none 0 0] (0, 0) _ rfl (blk_put (cs := #[.slice none 0 0]) (blk_drewN RB3.out n4) 0 _ rfl) Try.underlying50 rfl (by kernel_rfl)) rfl ?_
      exact ⟨_, rfl, by rw [HU.out]; exact Kd.R_nil _ _ _ _ _, below_set (zb (below_then (zc (Below.refl w.heap.size w) (.cells #[.slice none 0 0] 50)) (by simp) HB3.out) n4) (Nat.le_refl _)⟩

end Go.Proofs.Ytejecjjimggjeaa.GFnTornLog
