/- What is proved: the law FnExactScanFrames returns true: at every list of bytes of at most 2^20 the program's ScanFrames gives the reference's records and end, in memory of its own, and leaves its argument alone. Conditions: none (a longer argument is let by by the law itself). -/
import Derived.Test.YtejecjjimggjeaaGFnExactScanFramesx6
import Derived.Lib.Bytes
namespace Go.Proofs.Ytejecjjimggjeaa.Pure
open Go.RowKit Go.Proofs.Ytejecjjimggjeaa.GFnExactScanFrames Go.Proofs.YtejecjjimggjeaaW.PrintWords Go.Proofs.YtejecjjimggjeaaW.PrintLast Go.Proofs.YtejecjjimggjeaaW.PrintMore
set_option linter.unusedVariables false
set_option linter.unusedSimpArgs false

theorem w64 {x : Int} (h0 : -9223372036854775808 ≤ x) (h1 : x < 9223372036854775808) : wrap64 x = x := by unfold wrap64; omega
theorem u8_wf {x : Int} (h : (Lit.int .u8 x).wf = true) : 0 ≤ x ∧ x ≤ 255 := by
  simp [Lit.wf, IntKind.min, IntKind.max, IntKind.signed, IntKind.bits] at h
  omega
theorem Ev.pos {α : Type} {c : Prop} [Decidable c] {f g : Nat → Option α} {r : α} (hc : c) (h : Ev f r) : Ev (fun n => if c then f n else g n) r := Ev.congr (fun _ => if_pos hc) h
theorem Ev.neg {α : Type} {c : Prop} [Decidable c] {f g : Nat → Option α} {r : α} (hc : ¬c) (h : Ev g r) : Ev (fun n => if c then f n else g n) r := Ev.congr (fun _ => if_neg hc) h
theorem Ev.ofE {α : Type} {f : Option α} {r : α} (h : f = some r) : Ev (fun _ => f) r := ⟨0, fun _ _ => h⟩
theorem Ev.bindS {α β : Type} {g : Option α} {f : Nat → α → Option β} {a : α} {r : β} (h : g = some a) (k : Ev (fun n => f n a) r) : Ev (fun n => g.bind (f n)) r := Ev.congr (fun _ => by rw [h]; rfl) k
/-! bits as a list, the highest first -/
def val (bs : List Nat) : Nat := bs.foldl (fun v b => 2 * v + b) 0
theorem val_go (bs : List Nat) : ∀ v, bs.foldl (fun v b => 2 * v + b) v = v * 2 ^ bs.length + val bs := by
  induction bs with
  | nil => intro v; simp [val]
  | cons b bs ih => intro v; simp only [List.foldl_cons, val, List.length_cons]; rw [ih, ih (2 * 0 + b)]; rw [Nat.pow_succ]; simp only [Nat.add_mul, Nat.mul_zero, Nat.zero_mul]; rw [Nat.mul_comm 2 v, Nat.mul_assoc, Nat.mul_comm 2]; omega
theorem val_append (xs ys : List Nat) : val (xs ++ ys) = val xs * 2 ^ ys.length + val ys := by
  simp only [val, List.foldl_append]; exact val_go ys _
theorem val_snoc (xs : List Nat) (b : Nat) : val (xs ++ [b]) = 2 * val xs + b := by simp [val]
def Bits (bs : List Nat) : Prop := ∀ b ∈ bs, b ≤ 1
theorem Bits.append {xs ys : List Nat} (h : Bits xs) (k : Bits ys) : Bits (xs ++ ys) := fun b hb => by
  rcases List.mem_append.1 hb with h1 | h1
  · exact h b h1
  · exact k b h1
theorem Bits.take {xs : List Nat} (h : Bits xs) (n : Nat) : Bits (xs.take n) := fun b hb => h b (List.mem_of_mem_take hb)
theorem Bits.drop {xs : List Nat} (h : Bits xs) (n : Nat) : Bits (xs.drop n) := fun b hb => h b (List.mem_of_mem_drop hb)
theorem val_cons (b : Nat) (bs : List Nat) : val (b :: bs) = b * 2 ^ bs.length + val bs := by
  have := val_append [b] bs
  simpa [val] using this
theorem val_lt {bs : List Nat} (h : Bits bs) : val bs < 2 ^ bs.length := by
  induction bs with
  | nil => simp [val]
  | cons b bs ih =>
    have h1 := ih (fun c hc => h c (List.mem_cons_of_mem _ hc))
    have h2 := h b List.mem_cons_self
    rw [val_cons, List.length_cons, Nat.pow_succ]
    have h3 := Nat.mul_le_mul_right (2 ^ bs.length) h2
    omega
theorem val_take (bs : List Nat) (h : Bits bs) (n : Nat) : val bs / 2 ^ (bs.length - n) = val (bs.take n) ∧ val bs % 2 ^ (bs.length - n) = val (bs.drop n) := by
  have h1 := val_append (bs.take n) (bs.drop n)
  rw [List.take_append_drop, List.length_drop] at h1
  have h2 := val_lt (h.drop n)
  rw [List.length_drop] at h2
  have hpos : 0 < 2 ^ (bs.length - n) := Nat.two_pow_pos _
  rw [h1]
  constructor
  · rw [Nat.mul_comm, Nat.mul_add_div hpos, Nat.div_eq_of_lt h2]; omega
  · rw [Nat.mul_comm, Nat.mul_add_mod, Nat.mod_eq_of_lt h2]

/-- The bits of a number, so many, the highest first. -/
def bitsN : Nat → Nat → List Nat
  | 0, _ => []
  | n + 1, x => bitsN n (x / 2) ++ [x % 2]
theorem bitsN_len (n : Nat) : ∀ x, (bitsN n x).length = n := by induction n with
  | zero => intro x; rfl
  | succ n ih => intro x; simp [bitsN, ih]
theorem bitsN_bits (n : Nat) : ∀ x, Bits (bitsN n x) := by induction n with
  | zero => intro x b hb; simp [bitsN] at hb
  | succ n ih => intro x; exact (ih _).append (fun b hb => by simp at hb; omega)
theorem bitsN_val (n : Nat) : ∀ x, val (bitsN n x) = x % 2 ^ n := by induction n with
  | zero => intro x; simp [bitsN, val, Nat.mod_one]
  | succ n ih => intro x; rw [bitsN, val_snoc, ih, Nat.pow_succ]; have := Nat.mod_mul_left_div_self x 2 (2^n); have h2 := Nat.div_add_mod (x % (2 ^ n * 2)) 2; rw [Nat.mul_comm (2^n) 2, Nat.mod_mul_right_div_self, Nat.mod_mul_right_mod] at h2; rw [Nat.mul_comm (2^n) 2]; omega

def bitsL (n : Nat) (l : List Int) : List Nat := l.flatMap fun b => bitsN n b.toNat
theorem bitsL_snoc (n : Nat) (l : List Int) (b : Int) : bitsL n (l ++ [b]) = bitsL n l ++ bitsN n b.toNat := by simp [bitsL]
/-- What bits in groups of w come to: the groups, and the bits that are left. -/
def Groups (w : Nat) (bs : List Nat) (s : Nat × Nat × List Int) : Prop :=
  ∃ (gs : List (List Nat)) (rem : List Nat), (∀ g ∈ gs, g.length = w ∧ Bits g) ∧ Bits rem ∧ bs = gs.flatten ++ rem ∧ s = (val rem, rem.length, gs.map fun g => ((val g : Nat) : Int))
theorem drain_groups (w : Nat) (hw : 0 < w) : ∀ (k : Nat) (bs : List Nat) (gs : List (List Nat)) (rem : List Nat), (∀ g ∈ gs, g.length = w ∧ Bits g) → Bits rem → bs = gs.flatten ++ rem → rem.length < w * (k + 1) →
    ∃ s, drainM w k (val rem) rem.length (gs.map fun g => ((val g : Nat) : Int)) = s ∧ Groups w bs s ∧ s.2.1 < w := by
  intro k
  induction k with
  | zero => intro bs gs rem hg hr hb hl; exact ⟨_, rfl, ⟨gs, rem, hg, hr, hb, rfl⟩, by show rem.length < w; simpa using hl⟩
  | succ k ih =>
    intro bs gs rem hg hr hb hl
    by_cases h : w ≤ rem.length
    · obtain ⟨h1, h2⟩ := val_take rem hr w
      have h3 := ih bs (gs ++ [rem.take w]) (rem.drop w) (by
        intro g hgm
        rcases List.mem_append.1 hgm with hm | hm
        · exact hg g hm
        · simp at hm; subst hm; exact ⟨by simp; omega, hr.take w⟩) (hr.drop w) (by rw [hb]; simp) (by rw [List.length_drop]; rw [Nat.mul_succ] at hl; omega)
      obtain ⟨s, hs, h4, h5⟩ := h3
      refine ⟨s, ?_, h4, h5⟩
      rw [drainM, if_pos h, h1, h2, ← hs, List.length_drop, List.map_append]; rfl
    · refine ⟨_, by rw [drainM, if_neg h], ⟨gs, rem, hg, hr, hb, rfl⟩, by show rem.length < w; omega⟩
theorem run_groups (frm w : Nat) (hw : 0 < w) (hf : w + frm ≤ 3 * w) (l : List Int) : Groups w (bitsL frm l) (runM frm w l) ∧ (runM frm w l).2.1 < w := by
  suffices H : ∀ (l : List Int) (pre : List Int) (s : Nat × Nat × List Int), Groups w (bitsL frm pre) s → s.2.1 < w → Groups w (bitsL frm (pre ++ l)) (l.foldl (feedM frm w) s) ∧ (l.foldl (feedM frm w) s).2.1 < w by
    have := H l [] (0, 0, []) ⟨[], [], by simp, fun _ h => by simp at h, by simp [bitsL], by simp [val]⟩ hw
    simpa [runM] using this
  intro l
  induction l with
  | nil => intro pre s h1 h2; simpa using ⟨h1, h2⟩
  | cons b l ih =>
    intro pre s ⟨gs, rem, hg, hr, hb, hs⟩ h2
    subst hs
    have e : pre ++ b :: l = (pre ++ [b]) ++ l := by simp
    rw [e, List.foldl_cons]
    obtain ⟨s2, hs2, h3, h4⟩ := drain_groups w hw 2 (bitsL frm (pre ++ [b])) gs (rem ++ bitsN frm b.toNat) hg (hr.append (bitsN_bits _ _)) (by rw [bitsL_snoc, hb]; simp) (by
      rw [List.length_append, bitsN_len]; simp only at h2; omega)
    have e2 : feedM frm w (val rem, rem.length, gs.map fun g => ((val g : Nat) : Int)) b = s2 := by
      rw [← hs2, feedM, val_append, bitsN_len, bitsN_val, List.length_append, bitsN_len]
    rw [e2]
    exact ih _ _ h3 h4

def ints (bs : List Nat) : List Int := bs.map fun b : Nat => (b : Int)
theorem ints_len (bs : List Nat) : (ints bs).length = bs.length := by simp [ints]
theorem and1 (x : Int) (h0 : 0 ≤ x) (h1 : x ≤ 255) : Go.bits .and .i64 x 1 = x % 2 :=
  bits_mask .i64 63 (by decide) (fun n a b => by rw [IntKind.wrap_i64]; omega) 1 (by decide) x h0 (by omega)
theorem bit_at (b : Int) (j : Nat) (h0 : 0 ≤ b) (h1 : b ≤ 255) (hj : j ≤ 7) : Go.bits .and .i64 (wrap64 (shr .u8 b (IntKind.u64.wrap (j : Int)))) 1 = ((b.toNat / 2 ^ j % 2 : Nat) : Int) := by
  have hw : IntKind.u64.wrap (j : Int) = j := by simp only [IntKind.wrap, IntKind.bits, IntKind.signed]; simp; omega
  rw [hw]
  unfold shr
  rw [Int.toNat_natCast, Nat.min_eq_left (show j ≤ IntKind.u8.bits by simp [IntKind.bits]; omega)]
  have hj' : j = 0 ∨ j = 1 ∨ j = 2 ∨ j = 3 ∨ j = 4 ∨ j = 5 ∨ j = 6 ∨ j = 7 := by omega
  rcases hj' with rfl | rfl | rfl | rfl | rfl | rfl | rfl | rfl <;> (simp only [Nat.reducePow, Int.reducePow]; rw [w64 (by omega) (by omega), and1 _ (by omega) (by omega)]; omega)
/-- The bits of a number from bit j down. -/
theorem bitsN_top (n : Nat) : ∀ x, bitsN (n + 1) x = (x / 2 ^ n % 2) :: bitsN n x := by
  induction n with
  | zero => intro x; simp [bitsN]
  | succ n ih => intro x; rw [bitsN, ih, bitsN, Nat.div_div_eq_div_mul, Nat.pow_succ, Nat.mul_comm]; rfl
theorem l2Bits_l1 (data : List Int) (wd : Int) (i : Nat) (hi : i < data.length) (hb0 : 0 ≤ rd data i) (hb1 : rd data i ≤ 255) (r : List Int) : ∀ (d : Nat) (x5 : List Int), d ≤ 8 → x5.length + d ≤ 17592186044416 →
    Ev (fun k => spec_l2Bits.l0 k data wd (x5 ++ ints (bitsN d (rd data i).toNat)) (wrap64 ((i : Int) + 1))) r → Ev (fun k => spec_l2Bits.l1 k data wd x5 i ((d : Int) - 1)) r := by
  intro d
  induction d with
  | zero =>
    intro x5 _ _ h
    refine Ev.step (fun k => ?_) h
    simp only [spec_l2Bits.l1]
    rw [if_neg (by omega)]; simp [bitsN, ints]
  | succ d ih =>
    intro x5 hd hl h
    refine Ev.step (f := fun k => spec_l2Bits.l1 k data wd (x5 ++ [(((rd data i).toNat / 2 ^ d % 2 : Nat) : Int)]) i ((d : Int) - 1)) (fun k => ?_) ?_
    · simp only [spec_l2Bits.l1]
      have e : ((d + 1 : Nat) : Int) - 1 = d := by omega
      have hw : IntKind.u64.wrap (d : Int) = d := by simp only [IntKind.wrap, IntKind.bits, IntKind.signed]; simp; omega
      rw [e, if_pos (by omega), if_pos (by omega), if_pos (by omega), if_pos (by rw [hw]; omega), if_pos (by omega), bit_at _ d hb0 hb1 (by omega), w64 (by omega) (by omega)]
    · refine ih _ (by omega) (by simp; omega) ?_
      rw [bitsN_top] at h
      simpa [ints] using h
theorem l2Bits_ev (data : List Int) (hb : ∀ j : Nat, j < data.length → 0 ≤ rd data j ∧ rd data j ≤ 255) (wd : Nat) (hw : wd ≤ 8) (hl : data.length ≤ 1099511627776) : Ev (fun k => spec_l2Bits.f k data wd) (ints (bitsL wd data)) := by
  suffices H : ∀ (d i : Nat), i + d = data.length → Ev (fun k => spec_l2Bits.l0 k data wd (ints (bitsL wd (data.take i))) i) (ints (bitsL wd data)) by
    have := H data.length 0 (by omega)
    refine Ev.congr (fun k => ?_) this
    simp [spec_l2Bits.f, ints, bitsL]
  intro d
  induction d with
  | zero =>
    intro i hi
    refine Ev.step (f := fun _ => some (ints (bitsL wd data))) (fun k => ?_) (Ev.now _)
    simp only [spec_l2Bits.l0]
    rw [if_neg (by omega), List.take_of_length_le (by omega)]
  | succ d ih =>
    intro i hi
    have hlen : ∀ l : List Int, (bitsL wd l).length = wd * l.length := by
      intro l; induction l with
      | nil => simp [bitsL]
      | cons b l ih => simp only [bitsL, List.flatMap_cons, List.length_append, bitsN_len, List.length_cons] at *; rw [ih, Nat.mul_succ]; omega
    have h8 : wd * (data.take i).length ≤ 8 * data.length := Nat.mul_le_mul hw (by simp; omega)
    refine Ev.step (f := fun k => spec_l2Bits.l1 k data wd (ints (bitsL wd (data.take i))) i ((wd : Int) - 1)) (fun k => ?_) ?_
    · simp only [spec_l2Bits.l0]
      rw [if_pos (by omega), w64 (by omega) (by omega)]
    · refine l2Bits_l1 data wd i (by omega) (hb i (by omega)).1 (hb i (by omega)).2 _ wd _ hw (by rw [ints_len, hlen]; omega) ?_
      rw [w64 (by omega) (by omega)]
      have e : (i : Int) + 1 = ((i + 1 : Nat) : Int) := by omega
      rw [e]
      refine Ev.congr (fun k => ?_) (ih (i + 1) (by omega))
      rw [List.take_succ_eq_append_getElem (show i < data.length by omega), bitsL_snoc]
      simp [ints, rd, show i < data.length by omega]

def group (bs : List Nat) (i m : Nat) : List Nat := (List.range m).map fun j => bs.getD (i + j) 0
theorem group_succ (bs : List Nat) (i m : Nat) : group bs i (m + 1) = group bs i m ++ [bs.getD (i + m) 0] := by simp [group, List.range_succ]
theorem group_len (bs : List Nat) (i m : Nat) : (group bs i m).length = m := by simp [group]
theorem getD_bit {bs : List Nat} (h : Bits bs) (n : Nat) : bs.getD n 0 ≤ 1 := by
  by_cases hn : n < bs.length
  · have := h bs[n] (List.getElem_mem hn); simpa [hn] using this
  · simp [List.getElem?_eq_none (show bs.length ≤ n by omega)]
theorem group_bits {bs : List Nat} (h : Bits bs) (i m : Nat) : Bits (group bs i m) := fun b hb => by
  simp only [group, List.mem_map] at hb
  obtain ⟨j, _, rfl⟩ := hb
  exact getD_bit h _
theorem rd_ints (bs : List Nat) (n : Nat) : rd (ints bs) n = bs.getD n 0 := by
  simp only [rd, ints, Int.toNat_natCast, List.getD_eq_getElem?_getD, List.getElem?_map]
  cases bs[n]? <;> simp
theorem group_full (pre g post : List Nat) : group (pre ++ g ++ post) pre.length g.length = g := by
  apply List.ext_getElem?
  intro n
  simp only [group, List.getElem?_map]
  by_cases hn : n < g.length
  · rw [List.getElem?_range hn]; simp [List.getElem?_append, hn, show ¬ pre.length + n < pre.length by omega]
  · rw [List.getElem?_eq_none (show (List.range g.length).length ≤ n by simp; omega), List.getElem?_eq_none (by omega)]; rfl
theorem val_zeros (n : Nat) : val (List.replicate n 0) = 0 := by
  induction n with
  | zero => rfl
  | succ n ih => rw [List.replicate_succ', val_snoc, ih]
theorem group_last (pre g : List Nat) (n : Nat) (hn : g.length ≤ n) : group (pre ++ g) pre.length n = g ++ List.replicate (n - g.length) 0 := by
  apply List.ext_getElem?
  intro m
  simp only [group, List.getElem?_map]
  by_cases hm : m < n
  · rw [List.getElem?_range hm]
    by_cases h2 : m < g.length
    · simp [List.getElem?_append, h2, show ¬ pre.length + m < pre.length by omega]
    · rw [List.getElem?_append_right (by omega), List.getElem?_replicate]; simp [List.getElem?_append, h2, show m - g.length < n - g.length by omega]
  · rw [List.getElem?_eq_none (show (List.range n).length ≤ m by simp; omega), List.getElem?_eq_none (by simp; omega)]; rfl
theorem flat_len {gs : List (List Nat)} (w : Nat) (h : ∀ g ∈ gs, g.length = w) : gs.flatten.length = w * gs.length := by
  induction gs with
  | nil => simp
  | cons g gs ih => rw [List.flatten_cons, List.length_append, ih (fun g hg => h g (List.mem_cons_of_mem _ hg)), h g List.mem_cons_self, List.length_cons, Nat.mul_succ]; omega
theorem sp_l1 (bs : List Nat) (hB : Bits bs) (hl : bs.length ≤ 17592186044416) (i : Nat) (hi : i ≤ bs.length) (x4 : List Int) (hx : x4.length ≤ 17592186044416) (r : List Int) : ∀ (d m : Nat), m + d = 7 →
    Ev (fun k => spec_Pack.l0 k (ints bs) (x4 ++ [128 + (val (group bs i 7) : Int)]) ((i : Int) + 7)) r → Ev (fun k => spec_Pack.l1 k (ints bs) x4 i (val (group bs i m)) ((i : Int) + m)) r := by
  intro d
  induction d with
  | zero =>
    intro m hm h
    obtain rfl : m = 7 := by omega
    refine Ev.step (fun k => ?_) h
    simp only [spec_Pack.l1]
    have h7 := val_lt (group_bits hB i 7)
    rw [group_len] at h7
    rw [if_neg (by rw [w64 (by omega) (by omega)]; omega), if_pos (by omega), w64 (by omega) (by omega), w64 (by omega) (by omega), Int.emod_eq_of_lt (by omega) (by omega)]
  | succ d ih =>
    intro m hm h
    refine Ev.step (f := fun k => spec_Pack.l1 k (ints bs) x4 i (val (group bs i (m + 1))) ((i : Int) + ((m + 1 : Nat) : Int))) (fun k => ?_) (ih (m + 1) (by omega) h)
    simp only [spec_Pack.l1]
    have hm7 := val_lt (group_bits hB i m)
    rw [group_len] at hm7
    have hm8 : 2 ^ m ≤ 2 ^ 6 := Nat.pow_le_pow_right (by decide) (by omega)
    have hgb := getD_bit hB (i + m)
    rw [group_succ, val_snoc, if_pos (by rw [w64 (by omega) (by omega)]; omega), ints_len]
    have e1 : (i : Int) + m = ((i + m : Nat) : Int) := by omega
    have e2 : (i : Int) + ((m + 1 : Nat) : Int) = ((i + m : Nat) : Int) + 1 := by omega
    have e3 : wrap64 (2 * ((val (group bs i m) : Nat) : Int)) = 2 * ((val (group bs i m) : Nat) : Int) := w64 (by omega) (by omega)
    rw [e1, e2, rd_ints, e3, w64 (by omega) (by omega), w64 (by omega) (by omega)]
    by_cases hlt : i + m < bs.length
    · rw [if_pos (by omega), if_pos (by omega)]; push_cast; rfl
    · rw [if_neg (by omega)]
      have e0 : bs.getD (i + m) 0 = 0 := by simp [List.getElem?_eq_none (show bs.length ≤ i + m by omega)]
      rw [e0]; push_cast; simp
theorem sp_l0 (rem : List Nat) (hR : Bits rem) (hr : rem.length < 7) : ∀ (gs pre : List (List Nat)) (x4 : List Int), (∀ g ∈ pre ++ gs, g.length = 7 ∧ Bits g) → ((pre ++ gs).flatten ++ rem).length ≤ 17592186044416 → x4.length ≤ 7 * pre.length →
    Ev (fun k => spec_Pack.l0 k (ints ((pre ++ gs).flatten ++ rem)) x4 ((7 * pre.length : Nat) : Int)) (x4 ++ (gs.map fun g => 128 + ((val g : Nat) : Int)) ++ if 0 < rem.length then [128 + ((val rem * 2 ^ (7 - rem.length) : Nat) : Int)] else []) := by
  intro gs
  have hfl : ∀ l : List (List Nat), (∀ g ∈ l, g.length = 7 ∧ Bits g) → Bits l.flatten := fun l h b hb => by
    obtain ⟨g, hg, hb⟩ := List.mem_flatten.1 hb
    exact (h g hg).2 b hb
  induction gs with
  | nil =>
    intro pre x4 hg hl hx
    have hfl2 := flat_len 7 (fun g h => (hg g h).1)
    simp only [List.append_nil] at *
    rw [List.length_append, hfl2] at hl
    by_cases h0 : 0 < rem.length
    · refine Ev.step (f := fun k => spec_Pack.l1 k (ints (pre.flatten ++ rem)) x4 ((7 * pre.length : Nat) : Int) ((val (group (pre.flatten ++ rem) (7 * pre.length) 0) : Nat) : Int) (((7 * pre.length : Nat) : Int) + (0 : Nat))) (fun k => ?_) ?_
      · simp only [spec_Pack.l0]
        rw [if_pos (by rw [ints_len, List.length_append, hfl2]; omega)]; simp [group, val]
      · refine sp_l1 _ ((hfl _ hg).append hR) (by rw [List.length_append, hfl2]; omega) _ (by rw [List.length_append, hfl2]; omega) _ (by omega) _ 7 0 rfl ?_
        refine Ev.step (f := fun _ => some _) (fun k => ?_) (Ev.now _)
        simp only [spec_Pack.l0]
        rw [if_neg (by rw [ints_len, List.length_append, hfl2]; omega), ← hfl2, group_last _ _ _ (by omega), val_append, val_zeros, List.length_replicate, if_pos h0]; simp
    · refine Ev.step (f := fun _ => some _) (fun k => ?_) (Ev.now _)
      simp only [spec_Pack.l0]
      rw [if_neg (by rw [ints_len, List.length_append, hfl2]; omega), if_neg h0]; simp
  | cons g gs ih =>
    intro pre x4 hg hl hx
    have e : pre ++ g :: gs = (pre ++ [g]) ++ gs := by simp
    have hpre := flat_len (gs := pre) 7 (fun g h => (hg g (by simp [h])).1)
    have hg7 := (hg g (by simp)).1
    have hall := flat_len 7 (fun g h => (hg g h).1)
    have hl2 := hl
    rw [List.length_append, hall] at hl2
    simp only [List.length_append, List.length_cons] at hl2
    have h1 := ih (pre ++ [g]) (x4 ++ [128 + ((val g : Nat) : Int)]) (by rw [← e]; exact hg) (by rw [← e]; exact hl) (by simp; omega)
    rw [← e] at h1
    refine Ev.step (f := fun k => spec_Pack.l1 k (ints ((pre ++ g :: gs).flatten ++ rem)) x4 ((7 * pre.length : Nat) : Int) ((val (group ((pre ++ g :: gs).flatten ++ rem) (7 * pre.length) 0) : Nat) : Int) (((7 * pre.length : Nat) : Int) + (0 : Nat))) (fun k => ?_) ?_
    · simp only [spec_Pack.l0]
      rw [if_pos (by rw [ints_len, List.length_append, hall]; simp; omega)]; simp [group, val]
    · refine sp_l1 _ ((hfl _ hg).append hR) hl _ (by rw [List.length_append, hall]; simp; omega) _ (by omega) _ 7 0 rfl ?_
      have e3 : group ((pre ++ g :: gs).flatten ++ rem) (7 * pre.length) 7 = g := by
        have := group_full pre.flatten g (gs.flatten ++ rem)
        rw [hpre, hg7] at this
        simpa using this
      rw [e3]
      have e4 : ((7 * pre.length : Nat) : Int) + 7 = ((7 * (pre ++ [g]).length : Nat) : Int) := by simp; omega
      rw [e4]
      refine Ev.congr (fun k => rfl) ?_
      simpa using h1
theorem packM_ev (l : List Int) (hb : ∀ j : Nat, j < l.length → 0 ≤ rd l j ∧ rd l j ≤ 255) (hl : l.length ≤ 1099511627776) : Ev (fun k => spec_Pack.f k l) (packM l) := by
  have h1 := l2Bits_ev l hb 8 (by decide) hl
  obtain ⟨⟨gs, rem, hg, hr, hbs, hs⟩, hlt⟩ := run_groups 8 7 (by decide) (by decide) l
  rw [hs] at hlt
  have hlt7 : rem.length < 7 := hlt
  have hlen : (bitsL 8 l).length ≤ 17592186044416 := by
    have : ∀ l : List Int, (bitsL 8 l).length = 8 * l.length := by
      intro l; induction l with
      | nil => simp [bitsL]
      | cons b l ih => simp only [bitsL, List.flatMap_cons, List.length_append, bitsN_len, List.length_cons] at *; omega
    rw [this]; omega
  have h2 := sp_l0 rem hr hlt gs [] [] (by simpa using hg) (by simpa [← hbs] using hlen) (by simp)
  refine Ev.congr (f := fun k => (spec_l2Bits.f k l (8 : Nat)).bind fun t => spec_Pack.l0 k t [] 0) (fun k => by simp [spec_Pack.f]) ?_
  refine Ev.bind (g := fun k => spec_l2Bits.f k l (8 : Nat)) (f := fun k t => spec_Pack.l0 k t [] 0) h1 ?_
  rw [hbs]
  have e : packM l = (gs.map fun g => 128 + ((val g : Nat) : Int)) ++ if 0 < rem.length then [128 + ((val rem * 2 ^ (7 - rem.length) : Nat) : Int)] else [] := by
    unfold packM
    rw [hs]
    unfold finM
    have hv : ∀ g ∈ gs, ((128 + ((val g : Nat) : Int)) % 256) = 128 + ((val g : Nat) : Int) := fun g h => by
      have := val_lt (hg g h).2
      rw [(hg g h).1] at this
      omega
    have hm : (gs.map fun g => ((val g : Nat) : Int)).map (fun g => (128 + g) % 256) = gs.map fun g => 128 + ((val g : Nat) : Int) := by
      rw [List.map_map]; exact List.map_congr_left hv
    by_cases h0 : 0 < rem.length
    · simp only [if_pos h0, List.map_append, hm, List.map_cons, List.map_nil]
      have h3 := val_lt hr
      have h4 : val rem * 2 ^ (7 - rem.length) < 2 ^ rem.length * 2 ^ (7 - rem.length) := Nat.mul_lt_mul_of_pos_right h3 (Nat.two_pow_pos _)
      rw [← Nat.pow_add, show rem.length + (7 - rem.length) = 7 by omega] at h4
      rw [Int.emod_eq_of_lt (by omega) (by omega)]
    · simp only [if_neg h0, hm, List.append_nil]
  rw [e]
  simpa using h2
theorem okB {l : List Int} (h : ∀ x ∈ l, (Lit.int .u8 x).wf = true) : okBytes l = true := by
  unfold okBytes; rw [List.all_eq_true]; intro x hx; simpa using u8_wf (h x hx)
theorem packM_len (l : List Int) : (packM l).length ≤ 2 * l.length + 1 := by
  have hd : ∀ (k p r : Nat) (o : List Int), (drainM 7 k p r o).2.2.length ≤ o.length + k := by
    intro k; induction k with
    | zero => intro p r o; simp [drainM]
    | succ k ih => intro p r o; rw [drainM]; split
                   · have := ih (p % 2 ^ (r - 7)) (r - 7) (o ++ [((p / 2 ^ (r - 7) : Nat) : Int)]); rw [List.length_append, List.length_singleton] at this; omega
                   · simp
  have hr : ∀ (l : List Int) (s : Nat × Nat × List Int), (l.foldl (feedM 8 7) s).2.2.length ≤ s.2.2.length + 2 * l.length := by
    intro l; induction l with
    | nil => intro s; simp
    | cons b l ih => intro s; rw [List.foldl_cons]; have h1 := ih (feedM 8 7 s b); have h2 := hd 2 (s.1 * 2 ^ 8 + b.toNat % 2 ^ 8) (s.2.1 + 8) s.2.2; simp only [feedM, List.length_cons] at *; omega
  have := hr l (0, 0, [])
  have h2 : (packM l).length = (finM 7 (runM 8 7 l)).length := by rw [packM, List.length_map]
  rw [h2]
  have h3 : (runM 8 7 l).2.2.length ≤ 2 * l.length := by simpa [runM] using this
  unfold finM
  by_cases h : 0 < (runM 8 7 l).2.1
  · rw [if_pos h, List.length_append, List.length_singleton]; omega
  · rw [if_neg h]; omega

theorem strs_eqP (a b : List Int) (ha : okBytes a = true) (hb : okBytes b = true) : ((strOfNums a).toList == (strOfNums b).toList) = decide (a = b) := by
  by_cases h : a = b
  · subst h; simp
  · rw [decide_eq_false h, beq_eq_false_iff_ne, Lib.strOfNums_toList, Lib.strOfNums_toList]
    intro he
    apply h
    have hlen : a.length = b.length := by simpa [Lib.bytesOf] using congrArg List.length he
    apply List.ext_getElem hlen
    intro n h1 h2
    have e := congrArg (fun l => l[n]?) he
    simp only [Lib.bytesOf, List.getElem?_map, List.getElem?_eq_getElem h1, List.getElem?_eq_getElem h2, Option.map_some, Option.some.injEq] at e
    unfold okBytes at ha hb
    rw [List.all_eq_true] at ha hb
    have ha1 := ha a[n] (List.getElem_mem h1)
    have hb1 := hb b[n] (List.getElem_mem h2)
    simp only [decide_eq_true_eq] at ha1 hb1
    have e2 := congrArg UInt8.toNat e
    simp at e2
    omega
theorem okBytes_packP (l : List Int) : okBytes (packM l) = true := by
  unfold okBytes packM; rw [List.all_eq_true]; intro x hx
  obtain ⟨g, _, rfl⟩ := List.mem_map.1 hx
  simp only [decide_eq_true_eq]; omega
theorem okBytes_snocP {l : List Int} {x : Int} (h : okBytes l = true) (h0 : 0 ≤ x) (h1 : x ≤ 255) : okBytes (l ++ [x]) = true := by
  unfold okBytes at *; rw [List.all_append, h]; simp; omega
theorem su_l1 (l : List Int) (bs : List Nat) (hB : Bits bs) (hl : bs.length ≤ 17592186044416) (i : Nat) (hi : i + 8 ≤ bs.length) (x4 : List Int) (hx : x4.length ≤ 17592186044416) (r : List Int) : ∀ (d m : Nat), m + d = 8 →
    Ev (fun k => spec_Unpack.l0 k l (ints bs) (x4 ++ [(val (group bs i 8) : Int)]) ((i : Int) + 8)) r → Ev (fun k => spec_Unpack.l1 k l (ints bs) x4 i (val (group bs i m)) ((i : Int) + m)) r := by
  intro d
  induction d with
  | zero =>
    intro m hm h
    obtain rfl : m = 8 := by omega
    refine Ev.step (fun k => ?_) h
    simp only [spec_Unpack.l1]
    have h7 := val_lt (group_bits hB i 8)
    rw [group_len] at h7
    rw [if_neg (by rw [w64 (by omega) (by omega)]; omega), if_pos (by omega), w64 (by omega) (by omega), Int.emod_eq_of_lt (by omega) (by omega)]
  | succ d ih =>
    intro m hm h
    refine Ev.step (f := fun k => spec_Unpack.l1 k l (ints bs) x4 i (val (group bs i (m + 1))) ((i : Int) + ((m + 1 : Nat) : Int))) (fun k => ?_) (ih (m + 1) (by omega) h)
    simp only [spec_Unpack.l1]
    have hm7 := val_lt (group_bits hB i m)
    rw [group_len] at hm7
    have hm8 : 2 ^ m ≤ 2 ^ 7 := Nat.pow_le_pow_right (by decide) (by omega)
    have hgb := getD_bit hB (i + m)
    rw [group_succ, val_snoc, if_pos (by rw [w64 (by omega) (by omega)]; omega), ints_len]
    have e1 : (i : Int) + m = ((i + m : Nat) : Int) := by omega
    have e2 : (i : Int) + ((m + 1 : Nat) : Int) = ((i + m : Nat) : Int) + 1 := by omega
    have e3 : wrap64 (2 * ((val (group bs i m) : Nat) : Int)) = 2 * ((val (group bs i m) : Nat) : Int) := w64 (by omega) (by omega)
    rw [e1, e2, rd_ints, e3, w64 (by omega) (by omega), w64 (by omega) (by omega), if_pos (by omega), if_pos (by omega)]; push_cast; rfl
theorem su_l0 (l : List Int) (rem : List Nat) (hR : Bits rem) (hr : rem.length < 8) (hlb : okBytes l = true) : ∀ (gs pre : List (List Nat)) (x4 : List Int), (∀ g ∈ pre ++ gs, g.length = 8 ∧ Bits g) → ((pre ++ gs).flatten ++ rem).length ≤ 1099511627776 → x4.length ≤ 8 * pre.length → okBytes x4 = true →
    Ev (fun k => spec_Unpack.l0 k l (ints ((pre ++ gs).flatten ++ rem)) x4 ((8 * pre.length : Nat) : Int)) (if packM (x4 ++ gs.map fun g => ((val g : Nat) : Int)) = l then x4 ++ gs.map fun g => ((val g : Nat) : Int) else []) := by
  intro gs
  have hfl : ∀ l : List (List Nat), (∀ g ∈ l, g.length = 8 ∧ Bits g) → Bits l.flatten := fun l h b hb => by
    obtain ⟨g, hg, hb⟩ := List.mem_flatten.1 hb
    exact (h g hg).2 b hb
  induction gs with
  | nil =>
    intro pre x4 hg hl hx hx2
    have hfl2 := flat_len 8 (fun g h => (hg g h).1)
    simp only [List.append_nil, List.map_nil] at *
    rw [List.length_append, hfl2] at hl
    refine Ev.step (f := fun k => (spec_Pack.f k x4).bind fun t137 => ((spec_l2SameBytes.f t137 l).bind fun t140 => (if t140 = true then (some x4) else (some ([] : List Int))))) (fun k => ?_) ?_
    · simp only [spec_Unpack.l0]
      rw [if_neg (by rw [w64 (by omega) (by omega), ints_len, List.length_append, hfl2]; omega)]
    · refine Ev.bind (g := fun k => spec_Pack.f k x4) (f := fun k t137 => (spec_l2SameBytes.f t137 l).bind fun t140 => (if t140 = true then (some x4) else (some ([] : List Int)))) (packM_ev x4 (okBytes_rd hx2) (by omega)) ?_
      refine ⟨0, fun k _ => ?_⟩
      simp only [spec_l2SameBytes.f, Option.bind_some, strs_eqP _ _ (okBytes_packP x4) hlb]
      by_cases h : packM x4 = l <;> simp [h]
  | cons g gs ih =>
    intro pre x4 hg hl hx hx2
    have e : pre ++ g :: gs = (pre ++ [g]) ++ gs := by simp
    have hpre := flat_len (gs := pre) 8 (fun g h => (hg g (by simp [h])).1)
    have hg7 := (hg g (by simp)).1
    have hgl := val_lt (hg g (by simp)).2
    rw [hg7] at hgl
    have hall := flat_len 8 (fun g h => (hg g h).1)
    have hl2 := hl
    rw [List.length_append, hall] at hl2
    simp only [List.length_append, List.length_cons] at hl2
    have h1 := ih (pre ++ [g]) (x4 ++ [((val g : Nat) : Int)]) (by rw [← e]; exact hg) (by rw [← e]; exact hl) (by simp; omega) (okBytes_snocP hx2 (by omega) (by omega))
    rw [← e] at h1
    refine Ev.step (f := fun k => spec_Unpack.l1 k l (ints ((pre ++ g :: gs).flatten ++ rem)) x4 ((8 * pre.length : Nat) : Int) ((val (group ((pre ++ g :: gs).flatten ++ rem) (8 * pre.length) 0) : Nat) : Int) (((8 * pre.length : Nat) : Int) + (0 : Nat))) (fun k => ?_) ?_
    · simp only [spec_Unpack.l0]
      rw [if_pos (by rw [w64 (by omega) (by omega), ints_len, List.length_append, hall]; simp; omega)]; simp [group, val]
    · refine su_l1 l _ ((hfl _ hg).append hR) (by omega) _ (by rw [List.length_append, hall]; simp; omega) _ (by omega) _ 8 0 rfl ?_
      have e3 : group ((pre ++ g :: gs).flatten ++ rem) (8 * pre.length) 8 = g := by
        have := group_full pre.flatten g (gs.flatten ++ rem)
        rw [hpre, hg7] at this
        simpa using this
      rw [e3]
      have e4 : ((8 * pre.length : Nat) : Int) + 8 = ((8 * (pre ++ [g]).length : Nat) : Int) := by simp; omega
      rw [e4]
      refine Ev.congr (fun k => rfl) ?_
      simpa using h1
theorem unpackM_ev (l : List Int) (hb : okBytes l = true) (hl : l.length ≤ 137438953472) : Ev (fun k => spec_Unpack.f k l) (unpackM l) := by
  have h1 := l2Bits_ev l (okBytes_rd hb) 7 (by decide) (by omega)
  obtain ⟨⟨gs, rem, hg, hr, hbs, hs⟩, hlt⟩ := run_groups 7 8 (by decide) (by decide) l
  rw [hs] at hlt
  have hlt7 : rem.length < 8 := hlt
  have hlen : (bitsL 7 l).length ≤ 1099511627776 := by
    have : ∀ l : List Int, (bitsL 7 l).length = 7 * l.length := by
      intro l; induction l with
      | nil => simp [bitsL]
      | cons b l ih => simp only [bitsL, List.flatMap_cons, List.length_append, bitsN_len, List.length_cons] at *; omega
    rw [this]; omega
  have h2 := su_l0 l rem hr hlt hb gs [] [] (by simpa using hg) (by simpa [← hbs] using hlen) (by simp) rfl
  refine Ev.congr (f := fun k => (spec_l2Bits.f k l (7 : Nat)).bind fun t => spec_Unpack.l0 k l t [] 0) (fun k => by simp [spec_Unpack.f]) ?_
  refine Ev.bind (g := fun k => spec_l2Bits.f k l (7 : Nat)) (f := fun k t => spec_Unpack.l0 k l t [] 0) h1 ?_
  rw [hbs]
  have e : unpackM l = if packM (gs.map fun g => ((val g : Nat) : Int)) = l then (gs.map fun g => ((val g : Nat) : Int)) else [] := by
    unfold unpackM
    rw [hs]
  rw [e]
  simpa using h2
theorem runU_len (l : List Int) : (runM 7 8 l).2.2.length ≤ 2 * l.length := by
  have hd : ∀ (k p r : Nat) (o : List Int), (drainM 8 k p r o).2.2.length ≤ o.length + k := by
    intro k; induction k with
    | zero => intro p r o; simp [drainM]
    | succ k ih => intro p r o; rw [drainM]; split
                   · have := ih (p % 2 ^ (r - 8)) (r - 8) (o ++ [((p / 2 ^ (r - 8) : Nat) : Int)]); rw [List.length_append, List.length_singleton] at this; omega
                   · simp
  have hr : ∀ (l : List Int) (s : Nat × Nat × List Int), (l.foldl (feedM 7 8) s).2.2.length ≤ s.2.2.length + 2 * l.length := by
    intro l; induction l with
    | nil => intro s; simp
    | cons b l ih => intro s; rw [List.foldl_cons]; have h1 := ih (feedM 7 8 s b); have h2 := hd 2 (s.1 * 2 ^ 7 + b.toNat % 2 ^ 7) (s.2.1 + 7) s.2.2; simp only [feedM, List.length_cons] at *; omega
  have := hr l (0, 0, [])
  simpa [runM] using this
theorem unpackM_len (l : List Int) : (unpackM l).length ≤ 2 * l.length := by
  have := runU_len l
  unfold unpackM
  split
  · exact this
  · simp
theorem eqByteS_l (x : List Int) (hl : x.length ≤ 281474976710656) (d : Nat) : ∀ (i : Nat), i + d = x.length → ∀ k, d < k → laws_eqByteS.l0 k x x i = some true := by
  induction d with
  | zero =>
    intro i hi k hk
    obtain ⟨k, rfl⟩ : ∃ m, k = m + 1 := ⟨k - 1, by omega⟩
    simp only [laws_eqByteS.l0]
    rw [if_neg (by omega)]
  | succ d ih =>
    intro i hi k hk
    obtain ⟨k, rfl⟩ : ∃ m, k = m + 1 := ⟨k - 1, by omega⟩
    simp only [laws_eqByteS.l0]
    rw [if_pos (by omega), if_pos (by omega), if_pos (by omega), if_pos trivial, w64 (by omega) (by omega)]
    exact ih (i + 1) (by omega) k (by omega)
theorem eqByteS_ev (l : List Int) (hl : l.length ≤ 281474976710656) : Ev (fun k => laws_eqByteS.f k l l) true := by
  refine ⟨l.length + 1, fun k hk => ?_⟩
  simp only [laws_eqByteS.f]
  rw [if_pos trivial]
  exact eqByteS_l l hl l.length 0 (by omega) k (by omega)

def eS : Nat → List Int → Nat → Nat
  | 0, _, _ => 0
  | n + 1, l, a => match frOne (l.drop a) with
    | none => 0
    | some (_, s) => s + eS n l (a + s)
theorem frEnd_eS (l : List Int) : ∀ (n a : Nat), (frs n l a = [] ∧ eS n l a = 0) ∨ (frs n l a ≠ [] ∧ frEnd (frs n l a) = a + eS n l a) := by
  intro n
  induction n with
  | zero => intro a; exact .inl ⟨rfl, rfl⟩
  | succ n ih =>
    intro a
    simp only [frs, eS]
    cases he : frOne (l.drop a) with
    | none => exact .inl ⟨rfl, rfl⟩
    | some x =>
      obtain ⟨p, s⟩ := x
      refine .inr ⟨by simp, ?_⟩
      simp only
      rcases ih (a + s) with ⟨h1, h2⟩ | ⟨h1, h2⟩
      · rw [h1, h2]; rfl
      · obtain ⟨y, t, hy⟩ := List.exists_cons_of_ne_nil h1
        have : frEnd ((a + s, p) :: frs n l (a + s)) = frEnd (frs n l (a + s)) := by
          rw [hy]; unfold frEnd; rw [List.getLast?_cons_cons]
        rw [this, h2]; omega
theorem eS_le (l : List Int) : ∀ (n a : Nat), a ≤ l.length → a + eS n l a ≤ l.length := by
  intro n
  induction n with
  | zero => intro a h; simpa [eS] using h
  | succ n ih =>
    intro a h
    simp only [eS]
    cases he : frOne (l.drop a) with
    | none => simpa using h
    | some x =>
      obtain ⟨p, s⟩ := x
      have hs := frOne_some he
      rw [List.length_drop] at hs
      have := ih (a + s) (by omega)
      simp only; omega
theorem frs_mem (l : List Int) : ∀ (n a : Nat) (x : Nat × List Int), x ∈ frs n l a → x.2.length ≤ 2000 := by
  intro n
  induction n with
  | zero => intro a x h; cases h
  | succ n ih =>
    intro a x h
    simp only [frs] at h
    cases he : frOne (l.drop a) with
    | none => rw [he] at h; cases h
    | some y =>
      obtain ⟨p, s⟩ := y
      rw [he] at h
      have hs := frOne_some he
      rcases List.mem_cons.mp h with rfl | h
      · exact hs.2.2.2.1
      · exact ih _ _ h
theorem frs_len2 (l : List Int) : ∀ (n a : Nat), a ≤ l.length → (frs n l a).length ≤ l.length - a := by
  intro n
  induction n with
  | zero => intro a h; simp [frs]
  | succ n ih =>
    intro a h
    simp only [frs]
    cases he : frOne (l.drop a) with
    | none => simp
    | some x =>
      obtain ⟨p, s⟩ := x
      have hs := frOne_some he
      rw [List.length_drop] at hs
      have := ih (a + s) (by omega)
      simp only [List.length_cons]; omega
theorem specScan_ev (l : List Int) (hok : okBytes l = true) (hl : l.length ≤ 8192) : ∀ (n a : Nat), l.length - a < n → a ≤ l.length → Ev (fun k => spec_ScanFrames.f k (l.drop a)) ((frs n l a).map (fun x => (⟨x.2⟩ : S50)), (eS n l a : Int)) := by
  intro n
  induction n with
  | zero => intro a h; omega
  | succ n ih =>
    intro a hn ha
    have hokd : (l.drop a).all (fun x => decide (0 ≤ x ∧ x ≤ 255)) = true := List.all_eq_true.mpr (fun x hx => List.all_eq_true.mp hok x (List.mem_of_mem_drop hx))
    have hld : (l.drop a).length ≤ 8192 := by rw [List.length_drop]; omega
    have st : ∀ k, spec_ScanFrames.f (k + 1) (l.drop a) = match frHead (l.drop a) with
        | none => some ([], 0)
        | some m => (spec_Unpack.f k (((l.drop a).take (2 + m)).drop 2)).bind fun p => if p.length = 0 ∨ 2000 < p.length then some ([], 0) else (spec_ScanFrames.f k ((l.drop a).drop (2 + m))).bind fun r => if r.1.length ≤ 100000000 then some (⟨p⟩ :: r.1, wrap64 (((2 + m : Nat) : Int) + r.2)) else none := fun k => by
      rw [spec_ScanFrames.f, if_pos ⟨hokd, by omega⟩, if_neg (by omega)]
      cases frHead (l.drop a) <;> rfl
    refine Ev.step st ?_
    cases hh : frHead (l.drop a) with
    | none =>
      have h1 : frOne (l.drop a) = none := by unfold frOne; rw [hh]
      simp only [frs, eS, h1]
      exact Ev.now _
    | some m =>
      have hm := frHead_some hh
      rw [List.length_drop] at hm
      simp only
      have hq : okBytes (((l.drop a).take (2 + m)).drop 2) = true := List.all_eq_true.mpr (fun x hx => List.all_eq_true.mp hok x (List.mem_of_mem_drop (List.mem_of_mem_take (List.mem_of_mem_drop hx))))
      have hql : (((l.drop a).take (2 + m)).drop 2).length ≤ 8192 := by rw [List.length_drop, List.length_take, List.length_drop]; omega
      refine Ev.bind (unpackM_ev _ hq (by omega)) ?_
      by_cases hp : (unpackM (((l.drop a).take (2 + m)).drop 2)).length = 0 ∨ 2000 < (unpackM (((l.drop a).take (2 + m)).drop 2)).length
      · have h1 : frOne (l.drop a) = none := by unfold frOne; rw [hh]; exact if_pos hp
        simp only [frs, eS, h1]
        exact Ev.pos hp (Ev.now _)
      · have h1 : frOne (l.drop a) = some (unpackM (((l.drop a).take (2 + m)).drop 2), 2 + m) := by unfold frOne; rw [hh]; exact if_neg hp
        have hr := ih (a + (2 + m)) (by omega) (by omega)
        have he := eS_le l n (a + (2 + m)) (by omega)
        simp only [frs, eS, h1]
        rw [← List.drop_drop] at hr
        refine Ev.neg hp (Ev.bind hr (Ev.pos (show ((frs n l (a + (2 + m))).map (fun x => (⟨x.2⟩ : S50))).length ≤ 100000000 by rw [List.length_map]; have h3 := frs_len2 l n (a + (2 + m)) (by omega); omega) ?_))
        simp only
        rw [w64 (by omega) (by omega), show ((2 + m : Nat) : Int) + ((eS n l (a + (2 + m)) : Nat) : Int) = ((2 + m + eS n l (a + (2 + m)) : Nat) : Int) by omega]
        exact Ev.now _
theorem eqPayloadS_l (l : List S50) (hl : l.length ≤ 1048576) (hx : ∀ x ∈ l, x.f0.length ≤ 1048576) (d : Nat) : ∀ (i : Nat), i + d = l.length → Ev (fun k => laws_eqPayloadS.l0 k l l i) true := by
  induction d with
  | zero => intro i hi; exact Ev.step (fun k => by simp only [laws_eqPayloadS.l0]; exact if_neg (by omega)) (Ev.now _)
  | succ d ih =>
    intro i hi
    have e : rd_T50 l i = l[i] := by simp [rd_T50, show i < l.length by omega]
    refine Ev.step (fun k => by simp only [laws_eqPayloadS.l0]; rw [if_pos (by omega), if_pos (by omega), if_pos (by omega), w64 (by omega) (by omega), e]) ?_
    refine Ev.bind (a := true) ?_ (Ev.pos (by trivial) (ih (i + 1) (by omega)))
    simp only [laws_eqPayload.f]
    exact Ev.bind (eqByteS_ev _ (by have := hx l[i] (List.getElem_mem (by omega)); omega)) (Ev.pos (by trivial) (Ev.now _))
theorem eqScan_ev (l : List S50) (e : Int) (hl : l.length ≤ 1048576) (hx : ∀ x ∈ l, x.f0.length ≤ 1048576) : Ev (fun k => laws_eqScan.f k l e l e) true := by
  simp only [laws_eqScan.f, laws_eqPayloadS.f]
  exact Ev.bind (Ev.pos (by trivial) (eqPayloadS_l l hl hx l.length 0 (by omega))) (Ev.pos (by trivial) (Ev.pos (by trivial) (Ev.now _)))
theorem toByteS_l (x0 : List Int) (hl : x0.length ≤ 281474976710656) (d : Nat) : ∀ (i : Nat) (x3 : List Int), i + d = x0.length → x3.length = x0.length → x3.take i = x0.take i → ∀ k, d < k → laws_toByteS.l0 k x0 x3 i = some x0 := by
  induction d with
  | zero =>
    intro i x3 hi hl3 ht k hk
    obtain ⟨k, rfl⟩ : ∃ m, k = m + 1 := ⟨k - 1, by omega⟩
    simp only [laws_toByteS.l0]
    rw [if_neg (by omega), ← List.take_of_length_le (l := x3) (i := i) (by omega), ht, List.take_of_length_le (by omega)]
  | succ d ih =>
    intro i x3 hi hl3 ht k hk
    obtain ⟨k, rfl⟩ : ∃ m, k = m + 1 := ⟨k - 1, by omega⟩
    simp only [laws_toByteS.l0]
    rw [if_pos (by omega), if_pos (by omega), if_pos (by omega), w64 (by omega) (by omega), Int.toNat_natCast]
    refine ih (i + 1) _ (by omega) (by simpa using hl3) ?_ k (by omega)
    apply List.ext_getElem?
    intro n
    simp only [List.getElem?_take, rd, Int.toNat_natCast]
    by_cases hn : n < i
    · have h1 : (x3.take i)[n]? = (x0.take i)[n]? := by rw [ht]
      simp only [List.getElem?_take, if_pos hn] at h1
      rw [if_pos (by omega), if_pos (by omega), List.getElem?_set_ne (by omega)]; exact h1
    · by_cases hn2 : n = i
      · subst hn2; rw [if_pos (by omega), if_pos (by omega), List.getElem?_set_self (by omega)]
        simp [List.getElem?_eq_getElem (show n < x0.length by omega)]
      · rw [if_neg (by omega), if_neg (by omega)]
theorem toByteS_ev (l : List Int) (hl : l.length ≤ 281474976710656) : Ev (fun k => laws_toByteS.f k l) l := by
  refine ⟨l.length + 1, fun k hk => ?_⟩
  simp only [laws_toByteS.f]
  rw [if_pos (by omega), if_pos (by omega)]
  exact toByteS_l l hl l.length 0 _ (by omega) (by simp) (by simp) k (by omega)

def markB (a : Int) (l : List Int) : List Int := (List.range l.length).map fun i : Nat => (a + (i : Int)) % 256
theorem markByteS_l (a : Int) (ha : 0 ≤ a) (ha2 : a ≤ 4611686018427387904) (n : Nat) (hl : n ≤ 281474976710656) (d : Nat) : ∀ (i : Nat) (x : List Int), i + d = n → x.length = n → x.take i = (List.range i).map (fun i : Nat => (a + (i : Int)) % 256) → ∀ k, d < k → laws_markByteS.l0 k x (a + i) i = some (a + n, (List.range n).map fun i : Nat => (a + (i : Int)) % 256) := by
  induction d with
  | zero =>
    intro i x hi hx ht k hk
    obtain ⟨k, rfl⟩ : ∃ m, k = m + 1 := ⟨k - 1, by omega⟩
    simp only [laws_markByteS.l0]
    rw [if_neg (by omega)]
    rw [List.take_of_length_le (by omega)] at ht
    obtain rfl : i = n := by omega
    rw [ht]
  | succ d ih =>
    intro i x hi hx ht k hk
    obtain ⟨k, rfl⟩ : ∃ m, k = m + 1 := ⟨k - 1, by omega⟩
    simp only [laws_markByteS.l0]
    rw [if_pos (by omega), if_pos (by omega), w64 (by omega) (by omega), w64 (by omega) (by omega), Int.toNat_natCast]
    have e1 : a + (i : Int) + 1 = a + ((i + 1 : Nat) : Int) := by omega
    have e2 : (i : Int) + 1 = ((i + 1 : Nat) : Int) := by omega
    rw [e1, e2]
    refine ih (i + 1) _ (by omega) (by simpa using hx) ?_ k (by omega)
    rw [List.range_succ, List.map_append, ← ht, List.take_add_one]
    simp [List.take_set_of_le, hx, show i < n by omega]
theorem markByteS_ev (a : Int) (ha : 0 ≤ a) (ha2 : a ≤ 4611686018427387904) (l : List Int) (hl : l.length ≤ 281474976710656) : Ev (fun k => laws_markByteS.f k l a) (a + l.length, markB a l) := by
  refine ⟨l.length + 1, fun k hk => ?_⟩
  simp only [laws_markByteS.f]
  have := markByteS_l a ha ha2 l.length hl l.length 0 l (by omega) rfl (by simp) k (by omega)
  simpa [markB] using this
theorem heldByteS_l (a : Int) (ha : 0 ≤ a) (ha2 : a ≤ 4611686018427387904) (l : List Int) (hl : l.length ≤ 281474976710656) (d : Nat) : ∀ (i : Nat), i + d = l.length → ∀ k, d < k → laws_heldByteS.l0 k (markB a l) (a + i) i = some (a + l.length) := by
  have hml : (markB a l).length = l.length := by simp [markB]
  induction d with
  | zero =>
    intro i hi k hk
    obtain ⟨k, rfl⟩ : ∃ m, k = m + 1 := ⟨k - 1, by omega⟩
    simp only [laws_heldByteS.l0]
    rw [if_neg (by omega)]
    obtain rfl : i = l.length := by omega
    rfl
  | succ d ih =>
    intro i hi k hk
    obtain ⟨k, rfl⟩ : ∃ m, k = m + 1 := ⟨k - 1, by omega⟩
    simp only [laws_heldByteS.l0]
    have hrd : rd (markB a l) i = (a + (i : Int)) % 256 := by simp [rd, markB, show i < l.length by omega]
    rw [if_pos (by omega), if_pos (by omega), if_pos hrd, w64 (by omega) (by omega), w64 (by omega) (by omega)]
    have e1 : a + (i : Int) + 1 = a + ((i + 1 : Nat) : Int) := by omega
    have e2 : (i : Int) + 1 = ((i + 1 : Nat) : Int) := by omega
    rw [e1, e2]
    exact ih (i + 1) (by omega) k (by omega)
theorem heldByteS_ev (a : Int) (ha : 0 ≤ a) (ha2 : a ≤ 4611686018427387904) (l : List Int) (hl : l.length ≤ 281474976710656) : Ev (fun k => laws_heldByteS.f k (markB a l) a) (a + l.length) := by
  refine ⟨l.length + 1, fun k hk => ?_⟩
  simp only [laws_heldByteS.f]
  have := heldByteS_l a ha ha2 l hl l.length 0 (by omega) k (by omega)
  simpa using this


def tP (a : Int) : List S50 → Int
  | [] => a
  | x :: l => tP (a + x.f0.length) l
def mP (a : Int) : List S50 → List S50
  | [] => []
  | x :: l => ⟨markB a x.f0⟩ :: mP (a + x.f0.length) l
theorem tP_ge (l : List S50) : ∀ a, a ≤ tP a l := by
  induction l with
  | nil => intro a; exact Int.le_refl _
  | cons x l ih => intro a; have := ih (a + x.f0.length); simp only [tP]; omega
theorem mP_len (l : List S50) : ∀ a, (mP a l).length = l.length := by
  induction l with
  | nil => intro a; rfl
  | cons x l ih => intro a; simp [mP, ih]
theorem markPayloadS_x (d : Nat) : ∀ (i : Nat) (y : List S50) (a : Int), i + d = y.length → y.length ≤ 1048576 → (∀ x ∈ y.drop i, x.f0.length ≤ 1048576) → 0 ≤ a → a + d * 1048577 ≤ 4611686018427387904 → Ev (fun k => laws_markPayloadS.l0 k y a i) (tP a (y.drop i), y.take i ++ mP a (y.drop i)) := by
  induction d with
  | zero =>
    intro i y a hi hy hb ha ha2
    refine Ev.step (fun k => by simp only [laws_markPayloadS.l0]; exact if_neg (by omega)) ?_
    rw [List.drop_of_length_le (by omega), List.take_of_length_le (by omega), mP, List.append_nil]
    exact Ev.now _
  | succ d ih =>
    intro i y a hi hy hb ha ha2
    have e : rd_T50 y i = y[i] := by simp [rd_T50, show i < y.length by omega]
    rw [List.drop_eq_getElem_cons (show i < y.length by omega)] at hb ⊢
    have hl := hb y[i] List.mem_cons_self
    refine Ev.step (fun k => by simp only [laws_markPayloadS.l0]; rw [if_pos (by omega), if_pos (by omega), w64 (by omega) (by omega), Int.toNat_natCast, e]) ?_
    refine Ev.bind (markByteS_ev a (by omega) (by omega) _ (by omega)) ?_
    have h := ih (i + 1) (y.set i ⟨markB a y[i].f0⟩) (a + y[i].f0.length) (by simp; omega) (by simpa using hy) (fun x hx => hb x (by
      rw [List.drop_set_of_lt (by omega)] at hx; exact List.mem_cons_of_mem _ hx)) (by omega) (by omega)
    rw [List.drop_set_of_lt (by omega)] at h
    have h2 : (y.set i ⟨markB a y[i].f0⟩).take (i + 1) = y.take i ++ [⟨markB a y[i].f0⟩] := by
      rw [List.take_add_one, List.take_set_of_le (by omega)]
      simp [show i < y.length by omega]
    rw [h2, List.append_assoc] at h
    exact h
theorem heldPayloadS_x (l : List S50) : ∀ (pre : List S50) (a : Int), pre.length + l.length ≤ 1048576 → (∀ x ∈ l, x.f0.length ≤ 1048576) → 0 ≤ a → a + l.length * 1048577 ≤ 4611686018427387904 → Ev (fun k => laws_heldPayloadS.l0 k (pre ++ mP a l) a pre.length) (tP a l) := by
  induction l with
  | nil =>
    intro pre a hl hb ha ha2
    refine Ev.step (fun k => by simp only [laws_heldPayloadS.l0]; exact if_neg (by simp [mP])) ?_
    exact Ev.now _
  | cons x l ih =>
    intro pre a hl hb ha ha2
    have hx := hb x (by simp)
    simp only [List.length_cons] at hl ha2
    have hlen : (pre ++ mP a (x :: l)).length = pre.length + (l.length + 1) := by simp [mP_len]
    have e : rd_T50 (pre ++ mP a (x :: l)) (pre.length : Nat) = ⟨markB a x.f0⟩ := by simp [rd_T50, mP]
    refine Ev.step (fun k => by simp only [laws_heldPayloadS.l0]; rw [if_pos (by rw [hlen]; omega), if_pos (by omega), e, w64 (by omega) (by omega)]) ?_
    refine Ev.bind (heldByteS_ev a (by omega) (by omega) x.f0 (by omega)) (Ev.neg (by omega) ?_)
    have h := ih (pre ++ [⟨markB a x.f0⟩]) (a + x.f0.length) (by simp; omega) (fun y hy => hb y (by simp [hy])) (by omega) (by omega)
    rw [List.append_assoc, List.singleton_append, List.length_append, List.length_singleton] at h
    exact h
theorem markScan_x (l : List S50) (e : Int) (hl : l.length ≤ 1048576) (hx : ∀ x ∈ l, x.f0.length ≤ 1048576) : Ev (fun k => laws_markScan.f k l e 1) (tP 1 l, mP 1 l) := by
  simp only [laws_markScan.f, laws_markPayloadS.f]
  have h := markPayloadS_x l.length 0 l 1 (by omega) hl (by simpa using hx) (by omega) (by omega)
  rw [List.drop_zero, List.take_zero, List.nil_append] at h
  exact h
theorem heldScan_x (l : List S50) (e : Int) (hl : l.length ≤ 1048576) (hx : ∀ x ∈ l, x.f0.length ≤ 1048576) : Ev (fun k => laws_heldScan.f k (mP 1 l) e 1) (tP 1 l) := by
  simp only [laws_heldScan.f, laws_heldPayloadS.f]
  have h := heldPayloadS_x l [] 1 (by simpa using hl) hx (by omega) (by omega)
  have hg := tP_ge l 1
  exact Ev.bind h (Ev.neg (by omega) (Ev.now _))
theorem scanKey (l : List Int) (hok : okBytes l = true) (hl : l.length ≤ 1048576) : ∃ r : List S50 × Int, r.1.length ≤ 1048576 ∧ (∀ x ∈ r.1, x.f0.length ≤ 1048576) ∧ Ev (fun k => spec_ScanFrames.f k l) r ∧ impl_ScanFrames.f l = some r := by
  by_cases h8 : (l.length : Int) > 8192
  · refine ⟨([], 0), by simp, (fun x hx => by cases hx), Ev.step (fun k => by rw [spec_ScanFrames.f, if_pos ⟨hok, by omega⟩, if_pos h8]) (Ev.now _), ?_⟩
    unfold impl_ScanFrames.f
    rw [if_pos ⟨hok, by omega⟩, if_pos h8]
  · have h1 := specScan_ev l hok (by omega) (l.length + 1) 0 (by omega) (by omega)
    rw [List.drop_zero] at h1
    have hlen := frs_len2 l (l.length + 1) 0 (by omega)
    refine ⟨_, by rw [List.length_map]; omega, fun x hx => ?_, h1, ?_⟩
    · obtain ⟨y, hy, rfl⟩ := List.mem_map.mp hx
      have := frs_mem l _ _ y hy
      show y.2.length ≤ _
      omega
    · unfold impl_ScanFrames.f frAll
      rw [if_pos ⟨hok, by omega⟩, if_neg h8]
      rcases frEnd_eS l (l.length + 1) 0 with ⟨h2, h3⟩ | ⟨h2, h3⟩
      · rw [h2, h3]; rfl
      · rw [h3, Nat.zero_add]
theorem FnExactScanFrames : laws_FnExactScanFrames.Pure := by
  intro l ⟨h1, h3⟩
  apply Ev.rounds
  simp only [laws_FnExactScanFrames.f]
  by_cases hl : (l.length : Int) > 1048576
  · exact Ev.pos hl (Ev.now _)
  have hok := okB h3
  obtain ⟨r, hr1, hr2, es, ei⟩ := scanKey l hok (by omega)
  refine Ev.neg hl (Ev.bind (toByteS_ev l (by omega)) ?_)
  simp only [laws_FnExactScanFrames.g]
  refine Ev.bind es (Ev.bindS ei (Ev.bind (markByteS_ev 1 (by omega) (by omega) l (by omega)) (Ev.bind (markScan_x r.1 r.2 hr1 hr2) ?_)))
  obtain ⟨K1, e1⟩ := eqScan_ev r.1 r.2 hr1 hr2
  obtain ⟨K2, e2⟩ := eqByteS_ev l (by omega)
  obtain ⟨K3, e3⟩ := heldScan_x r.1 r.2 hr1 hr2
  have hg := tP_ge r.1 1
  refine ⟨K1 + K2 + K3, fun k hk => if_pos ⟨e1 k (by omega), e2 k (by omega), ?_, ?_, e3 k (by omega)⟩⟩
  · show (0 : Int) ≤ 1 + l.length
    omega
  · show (0 : Int) ≤ tP 1 r.1
    omega

end Go.Proofs.Ytejecjjimggjeaa.Pure
