/- What is proved: the law FnSync returns true. Conditions: none. -/
import Derived.Test.YtejecjjimggjeaaGFnSyncx13
import Derived.Lib.Bytes
namespace Go.Proofs.Ytejecjjimggjeaa.Pure
open Go.RowKit Go.Proofs.Ytejecjjimggjeaa.GFnSync Go.Proofs.YtejecjjimggjeaaW.PrintWords Go.Proofs.YtejecjjimggjeaaW.PrintLast Go.Proofs.YtejecjjimggjeaaW.PrintMore
set_option linter.unusedVariables false
set_option linter.unusedSimpArgs false

theorem w64 {x : Int} (h0 : -9223372036854775808 ≤ x) (h1 : x < 9223372036854775808) : wrap64 x = x := by unfold wrap64; omega
theorem u8_wf {x : Int} (h : (Lit.int .u8 x).wf = true) : 0 ≤ x ∧ x ≤ 255 := by
  simp [Lit.wf, IntKind.min, IntKind.max, IntKind.signed, IntKind.bits] at h
  omega
theorem Ev.pos {α : Type} {c : Prop} [Decidable c] {f g : Nat → Option α} {r : α} (hc : c) (h : Ev f r) : Ev (fun n => if c then f n else g n) r := Ev.congr (fun _ => if_pos hc) h
theorem Ev.neg {α : Type} {c : Prop} [Decidable c] {f g : Nat → Option α} {r : α} (hc : ¬c) (h : Ev g r) : Ev (fun n => if c then f n else g n) r := Ev.congr (fun _ => if_neg hc) h
theorem Ev.ofE {α : Type} {f : Option α} {r : α} (h : f = some r) : Ev (fun _ => f) r := ⟨0, fun _ _ => h⟩
theorem Ev.bindS {α β : Type} {g : Option α} {f : Nat → α → Option β} {a : α} {r : β} (h : g = some a) (k : Ev (fun n => f n a) r) : Ev (fun n => g.bind (f n)) r := Ev.congr (fun _ => by rw [h]; rfl) k
def okB (l : List Int) : Prop := ∀ x ∈ l, 0 ≤ x ∧ x ≤ 255
theorem okB_take {l : List Int} (h : okB l) (n : Nat) : okB (l.take n) := fun x hx => h x (List.mem_of_mem_take hx)
theorem okB_drop {l : List Int} (h : okB l) (n : Nat) : okB (l.drop n) := fun x hx => h x (List.mem_of_mem_drop hx)
/-- The drawing state: bytes, a place in them, a number. -/
def StOk (c : List Int) (a m : Int) : Prop := okB c ∧ c.length ≤ 4000 ∧ 0 ≤ a ∧ a ≤ c.length ∧ 0 ≤ m ∧ m < 1000003
theorem next_e {c : List Int} {a m : Int} (h : StOk c a m) (z n : Int) (h1 : n < 9223372036854775808) : ∃ r a' m', spec_l1Next.f c a m z n = some (r, a', m', z) ∧ StOk c a' m' ∧ 0 ≤ r ∧ (1 ≤ n → r < n) := by
  obtain ⟨hc, hl, ha, hal, hm, hm2⟩ := h
  unfold spec_l1Next.f
  by_cases c1 : n ≤ 1
  · rw [if_pos c1]; exact ⟨0, a, m, rfl, ⟨hc, hl, ha, hal, hm, hm2⟩, by omega, by omega⟩
  rw [if_neg c1]
  have hmix : wrap64 ((wrap64 (m * 1103)) + 12347) = m * 1103 + 12347 := by rw [w64 (x := m * 1103) (by omega) (by omega), w64 (by omega) (by omega)]
  have ht : Int.tmod (m * 1103 + 12347) 1000003 = (m * 1103 + 12347) % 1000003 := Int.tmod_eq_emod_of_nonneg (by omega)
  have hd : Int.tdiv ((m * 1103 + 12347) % 1000003) 3 = ((m * 1103 + 12347) % 1000003) / 3 := Int.tdiv_eq_ediv_of_nonneg (by omega)
  have key : (if n = 0 then (none : Option (Int × Int × Int × Int)) else (some (Int.tmod (wrap64 (Int.tdiv (Int.tmod (wrap64 ((wrap64 (m * 1103)) + 12347)) 1000003) 3)) n, a, Int.tmod (wrap64 ((wrap64 (m * 1103)) + 12347)) 1000003, z))) = some (((m * 1103 + 12347) % 1000003 / 3) % n, a, (m * 1103 + 12347) % 1000003, z) := by
    rw [if_neg (by omega), hmix, ht, hd, w64 (by omega) (by omega), Int.tmod_eq_emod_of_nonneg (by omega)]
  have ok2 : StOk c a ((m * 1103 + 12347) % 1000003) := ⟨hc, hl, ha, hal, by omega, by omega⟩
  have r0 : 0 ≤ ((m * 1103 + 12347) % 1000003 / 3) % n := Int.emod_nonneg _ (by omega)
  have r1 : ((m * 1103 + 12347) % 1000003 / 3) % n < n := Int.emod_lt_of_pos _ (by omega)
  by_cases c2 : a < (c.length : Int)
  · rw [if_pos c2]
    by_cases c3 : n ≤ 256
    · rw [if_pos c3, if_pos ha, if_neg (by omega)]
      have hb : 0 ≤ rd c a ∧ rd c a ≤ 255 := by
        have hi : a.toNat < c.length := by omega
        have e : rd c a = c[a.toNat] := by simp [rd, hi]
        rw [e]; exact hc _ (List.getElem_mem hi)
      refine ⟨_, _, _, rfl, ⟨hc, hl, by rw [w64 (by omega) (by omega)]; omega, by rw [w64 (by omega) (by omega)]; omega, hm, hm2⟩, ?_, fun _ => ?_⟩
      · rw [w64 (by omega) (by omega), Int.tmod_eq_emod_of_nonneg hb.1]; exact Int.emod_nonneg _ (by omega)
      · rw [w64 (by omega) (by omega), Int.tmod_eq_emod_of_nonneg hb.1]; exact Int.emod_lt_of_pos _ (by omega)
    · rw [if_neg c3, key]; exact ⟨_, _, _, rfl, ok2, r0, fun _ => r1⟩
  · rw [if_neg c2, key]; exact ⟨_, _, _, rfl, ok2, r0, fun _ => r1⟩
theorem src_l1 (c : List Int) (hc : okB c) (hl : c.length ≤ 4000) (a z : Int) (d : Nat) : ∀ (i : Nat) (m : Int), i + d = c.length → 0 ≤ m → m < 1000003 → ∃ m' z', Ev (fun k => spec_l1Source.l1 k i c a m z) (c, a, m', z') ∧ 0 ≤ m' ∧ m' < 1000003 ∧ 1 ≤ z' ∧ z' ≤ 7 := by
  induction d with
  | zero =>
    intro i m hi h0 h1
    have hs : wrap64 (1 + (wrap64 ((c.length : Int) / 50))) = 1 + (c.length : Int) / 50 := by rw [w64 (x := (c.length : Int) / 50) (by omega) (by omega), w64 (by omega) (by omega)]
    by_cases h7 : 1 + (c.length : Int) / 50 > 7
    · refine ⟨m, 7, Ev.step (fun k => by simp only [spec_l1Source.l1]; rw [if_neg (by omega), hs, if_pos h7]) (Ev.now _), h0, h1, by omega, by omega⟩
    · refine ⟨m, 1 + (c.length : Int) / 50, Ev.step (fun k => by simp only [spec_l1Source.l1]; rw [if_neg (by omega), hs, if_neg h7]) (Ev.now _), h0, h1, by omega, by omega⟩
  | succ d ih =>
    intro i m hi h0 h1
    have hil : i < c.length := by omega
    have e : rd c (i : Int) = c[i] := by simp [rd, hil]
    have hb := hc c[i] (List.getElem_mem hil)
    obtain ⟨m', z', he, r⟩ := ih (i + 1) ((m * 257 + c[i] + 1) % 1000003) (by omega) (by omega) (by omega)
    refine ⟨m', z', Ev.step (fun k => ?_) he, r⟩
    simp only [spec_l1Source.l1]
    rw [if_pos (by omega), if_pos (by omega), e, w64 (x := c[i]) (by omega) (by omega), w64 (x := m * 257) (by omega) (by omega), w64 (x := m * 257 + c[i]) (by omega) (by omega), w64 (x := m * 257 + c[i] + 1) (by omega) (by omega), w64 (x := (i : Int) + 1) (by omega) (by omega), Int.tmod_eq_emod_of_nonneg (by omega)]
    rfl
theorem src_j1 (l c : List Int) (hc : okB c) (hl : c.length ≤ 4000) (hll : l.length ≤ 1048576) : ∃ m' z', Ev (fun k => spec_l1Source.j1 k l c 0 0 0) (c, 0, m', z') ∧ 0 ≤ m' ∧ m' < 1000003 ∧ 1 ≤ z' ∧ z' ≤ 7 := by
  obtain ⟨m', z', he, r⟩ := src_l1 c hc hl 0 0 c.length 0 ((l.length : Int) % 1000 + 53) (by omega) (by omega) (by omega)
  refine ⟨m', z', Ev.step (fun k => ?_) he, r⟩
  simp only [spec_l1Source.j1]
  rfl
theorem src_l0 (l : List Int) (hl : okB l) (hll : l.length ≤ 1048576) (d : Nat) : ∀ (i : Nat), i + d = (l.take 4000).length → ∃ m' z', Ev (fun k => spec_l1Source.l0 k l i (l.take i) 0 0 0) (l.take 4000, 0, m', z') ∧ 0 ≤ m' ∧ m' < 1000003 ∧ 1 ≤ z' ∧ z' ≤ 7 := by
  have h4 : (l.take 4000).length = min 4000 l.length := List.length_take
  induction d with
  | zero =>
    intro i hi
    have e : l.take i = l.take 4000 := by
      by_cases h : l.length ≤ 4000
      · rw [List.take_of_length_le (by omega), List.take_of_length_le h]
      · rw [show i = 4000 by omega]
    obtain ⟨m', z', he, r⟩ := src_j1 l (l.take 4000) (okB_take hl 4000) (by omega) hll
    refine ⟨m', z', Ev.step (fun k => ?_) he, r⟩
    simp only [spec_l1Source.l0]
    rw [e]
    by_cases h : (i : Int) < (l.length : Int)
    · rw [if_pos h, if_neg (by omega)]
    · rw [if_neg h]
  | succ d ih =>
    intro i hi
    have hil : i < l.length := by omega
    have e : rd l (i : Int) = l[i] := by simp [rd, hil]
    obtain ⟨m', z', he, r⟩ := ih (i + 1) (by omega)
    refine ⟨m', z', Ev.step (fun k => ?_) he, r⟩
    simp only [spec_l1Source.l0]
    rw [if_pos (by omega), if_pos (by omega), if_pos (by omega), if_pos (by rw [List.length_take]; omega), e, w64 (x := (i : Int) + 1) (by omega) (by omega), List.take_succ_eq_append_getElem hil]
    rfl
/-- What a law's bytes make: a state that draws. -/
theorem src_e (l : List Int) (hl : okB l) (hll : l.length ≤ 1048576) : ∃ c m z, Ev (fun k => spec_l1Source.f k l) (c, 0, m, z) ∧ StOk c 0 m ∧ 1 ≤ z ∧ z ≤ 7 := by
  obtain ⟨m', z', he, r1, r2, r3, r4⟩ := src_l0 l hl hll (l.take 4000).length 0 (by omega)
  exact ⟨l.take 4000, m', z', he, ⟨okB_take hl _, by rw [List.length_take]; omega, by omega, by omega, r1, r2⟩, r3, r4⟩
def okW (n : Int) (x : S45) : Bool := !(decide (x.f0 < 0)) && !(decide (x.f0 ≥ n)) && decide (x.f1.length = 64)
def validD (b : List Int) (l : List S45) : Bool := decide (b.length % 64 = 0) && decide (1 ≤ b.length / 64) && decide (b.length / 64 ≤ 300) && decide (l.length ≤ 2000) && l.all (okW (b.length / 64 : Nat))
theorem specValid_l (n : Int) (b : List Int) (l : List S45) (hl : l.length ≤ 281474976710656) (d : Nat) : ∀ (i : Nat), i + d = l.length → Ev (fun k => spec_ValidDisk.l0 k n i b l) ((l.drop i).all (okW n)) := by
  induction d with
  | zero =>
    intro i hi
    refine Ev.step (fun k => by simp only [spec_ValidDisk.l0]; exact if_neg (by omega)) ?_
    rw [List.drop_of_length_le (by omega)]; exact Ev.now _
  | succ d ih =>
    intro i hi
    have e : rd_T45 l i = l[i] := by simp [rd_T45, show i < l.length by omega]
    refine Ev.step (fun k => by simp only [spec_ValidDisk.l0]; rw [if_pos (by omega), if_pos (by omega), e, w64 (by omega) (by omega)]) ?_
    rw [List.drop_eq_getElem_cons (by omega), List.all_cons]
    by_cases h1 : l[i].f0 < 0
    · simp only [okW, h1, decide_true, Bool.not_true, Bool.false_and]; exact Ev.pos (by trivial) (Ev.now _)
    by_cases h2 : l[i].f0 ≥ n
    · simp only [okW, h1, h2, decide_true, Bool.not_true, Bool.false_and, Bool.and_false]; exact Ev.neg (by simp) (Ev.pos (by trivial) (Ev.now _))
    by_cases h3 : l[i].f1.length = 64
    · have h3' : (l[i].f1.length : Int) = 64 := by omega
      have : okW n l[i] = true := by simp [okW, h1, h2, h3]
      rw [this, Bool.true_and]
      exact Ev.neg h1 (Ev.neg h2 (Ev.pos h3' (ih (i + 1) (by omega))))
    · have h3' : ¬(l[i].f1.length : Int) = 64 := by omega
      have : okW n l[i] = false := by simp [okW, h3]
      rw [this, Bool.false_and]
      exact Ev.neg h1 (Ev.neg h2 (Ev.neg h3' (Ev.now _)))
theorem implValid_l (n : Int) (l : List S45) (hl : l.length ≤ 281474976710656) (d : Nat) : ∀ (i : Nat), i + d = l.length → Ev (fun k => impl_ValidDisk.l0 k n l (l.length : Int) i) ((l.drop i).all (okW n)) := by
  induction d with
  | zero =>
    intro i hi
    refine Ev.step (fun k => by simp only [impl_ValidDisk.l0]; exact if_neg (by omega)) ?_
    rw [List.drop_of_length_le (by omega)]; exact Ev.now _
  | succ d ih =>
    intro i hi
    have e : rd_T45 l i = l[i] := by simp [rd_T45, show i < l.length by omega]
    refine Ev.step (fun k => by simp only [impl_ValidDisk.l0]; rw [if_pos (by omega), if_pos (by omega), if_pos (by omega), e, w64 (by omega) (by omega)]) ?_
    rw [List.drop_eq_getElem_cons (by omega), List.all_cons]
    by_cases h1 : l[i].f0 < 0
    · simp only [okW, h1, decide_true, Bool.not_true, Bool.false_and]; exact Ev.pos (by trivial) (Ev.now _)
    by_cases h2 : l[i].f0 ≥ n
    · simp only [okW, h1, h2, decide_true, Bool.not_true, Bool.false_and, Bool.and_false]; exact Ev.neg (by simp) (Ev.pos (by trivial) (Ev.now _))
    by_cases h3 : l[i].f1.length = 64
    · have h3' : (l[i].f1.length : Int) = 64 := by omega
      have : okW n l[i] = true := by simp [okW, h1, h2, h3]
      rw [this, Bool.true_and]
      exact Ev.neg h1 (Ev.neg h2 (Ev.pos h3' (ih (i + 1) (by omega))))
    · have h3' : ¬(l[i].f1.length : Int) = 64 := by omega
      have : okW n l[i] = false := by simp [okW, h3]
      rw [this, Bool.false_and]
      exact Ev.neg h1 (Ev.neg h2 (Ev.neg h3' (Ev.now _)))
theorem specValid_ev (b : List Int) (l : List S45) (hb : b.length ≤ 281474976710656) (hl : l.length ≤ 281474976710656) : Ev (fun k => spec_ValidDisk.f k b l) (validD b l) := by
  have e : spec_l1Blocks.f b l = some ((b.length / 64 : Nat) : Int) := by simp only [spec_l1Blocks.f]; rw [w64 (by omega) (by omega)]; rfl
  simp only [spec_ValidDisk.f]
  refine Ev.bindS e ?_
  have j1 : Ev (fun k => spec_ValidDisk.j0 k ((b.length / 64 : Nat) : Int) true b l) false := Ev.step (fun k => by simp only [spec_ValidDisk.j0]; exact if_pos trivial) (Ev.now _)
  by_cases nh1 : ¬(b.length % 64 = 0)
  · have h1 := nh1
    have : validD b l = false := by simp [validD, h1]
    rw [this]; exact Ev.neg (by omega) j1
  have h1 : b.length % 64 = 0 := by omega
  refine Ev.pos (by omega) ?_
  by_cases nh2 : ¬(1 ≤ b.length / 64)
  · have h2 := nh2
    have : validD b l = false := by simp [validD, h2]
    rw [this]; exact Ev.pos (by omega) j1
  have h2 : 1 ≤ b.length / 64 := by omega
  refine Ev.neg (by omega) ?_
  by_cases nh3 : ¬(b.length / 64 ≤ 300)
  · have h3 := nh3
    have : validD b l = false := by simp [validD, h3]
    rw [this]; exact Ev.pos (by omega) j1
  have h3 : b.length / 64 ≤ 300 := by omega
  refine Ev.neg (by omega) ?_
  by_cases nh4 : ¬(l.length ≤ 2000)
  · have h4 := nh4
    have : validD b l = false := by simp [validD, h4]
    rw [this]; rw [decide_eq_true (by omega)]; exact j1
  have h4 : l.length ≤ 2000 := by omega
  rw [decide_eq_false (by omega)]
  have : validD b l = (l.drop 0).all (okW (b.length / 64 : Nat)) := by simp only [validD, h1, h2, h3, h4, decide_true, Bool.true_and, List.drop_zero]
  rw [this]
  exact Ev.step (fun k => by simp only [spec_ValidDisk.j0]; exact if_neg (by simp)) (specValid_l _ b l hl l.length 0 (by omega))
theorem implValid_ev (b : List Int) (l : List S45) (hb : b.length ≤ 281474976710656) (hl : l.length ≤ 281474976710656) : Ev (fun k => impl_ValidDisk.f k b l) (validD b l) := by
  have e : impl_Disk_blocks.f b l = some ((b.length / 64 : Nat) : Int) := by simp only [impl_Disk_blocks.f]; rw [w64 (by omega) (by omega)]; rfl
  simp only [impl_ValidDisk.f]
  refine Ev.bindS e ?_
  have j1 : Ev (fun k => impl_ValidDisk.j0 k ((b.length / 64 : Nat) : Int) true b l) false := Ev.step (fun k => by simp only [impl_ValidDisk.j0]; exact if_pos trivial) (Ev.now _)
  by_cases nh1 : ¬(b.length % 64 = 0)
  · have h1 := nh1
    have : validD b l = false := by simp [validD, h1]
    rw [this]; exact Ev.neg (by omega) j1
  have h1 : b.length % 64 = 0 := by omega
  refine Ev.pos (by omega) ?_
  by_cases nh2 : ¬(1 ≤ b.length / 64)
  · have h2 := nh2
    have : validD b l = false := by simp [validD, h2]
    rw [this]; exact Ev.pos (by omega) j1
  have h2 : 1 ≤ b.length / 64 := by omega
  refine Ev.neg (by omega) ?_
  by_cases nh3 : ¬(b.length / 64 ≤ 300)
  · have h3 := nh3
    have : validD b l = false := by simp [validD, h3]
    rw [this]; exact Ev.pos (by omega) j1
  have h3 : b.length / 64 ≤ 300 := by omega
  refine Ev.neg (by omega) ?_
  by_cases nh4 : ¬(l.length ≤ 2000)
  · have h4 := nh4
    have : validD b l = false := by simp [validD, h4]
    rw [this]; rw [decide_eq_true (by omega)]; exact j1
  have h4 : l.length ≤ 2000 := by omega
  rw [decide_eq_false (by omega)]
  have : validD b l = (l.drop 0).all (okW (b.length / 64 : Nat)) := by simp only [validD, h1, h2, h3, h4, decide_true, Bool.true_and, List.drop_zero]
  rw [this]
  exact Ev.step (fun k => by simp only [impl_ValidDisk.j0]; exact if_neg (by simp)) (implValid_l _ l hl l.length 0 (by omega))

theorem okW_64 {n : Int} {l : List S45} (h : l.all (okW n) = true) : l.all (fun p => decide (p.f1.length = 64)) = true := by
  rw [List.all_eq_true] at *
  intro x hx
  have := h x hx
  simp only [okW, Bool.and_eq_true] at this
  exact this.2
theorem l1Copy_l (l : List Int) (hl : l.length ≤ 1099511627776) (d : Nat) : ∀ (i : Nat) (x : List Int), i + d = l.length → x = l.take i → Ev (fun k => spec_l1Copy.l0 k l x i) l := by
  induction d with
  | zero =>
    intro i x hi hx
    refine Ev.step (fun k => by simp only [spec_l1Copy.l0]; exact if_neg (by omega)) ?_
    rw [hx, List.take_of_length_le (by omega)]; exact Ev.now _
  | succ d ih =>
    intro i x hi hx
    have hxl : x.length ≤ i := by rw [hx, List.length_take]; omega
    refine Ev.step (fun k => by simp only [spec_l1Copy.l0]; rw [if_pos (by omega), if_pos (by omega), if_pos (by omega), w64 (by omega) (by omega)]) ?_
    refine ih (i + 1) _ (by omega) ?_
    have : rd l (i : Int) = l[i] := by unfold rd; simp [show i < l.length by omega]
    rw [hx, List.take_add_one, List.getElem?_eq_getElem (by omega), this]
    simp
theorem l1Copy_ev (l : List Int) (hl : l.length ≤ 1099511627776) : Ev (fun k => spec_l1Copy.f k l) l := l1Copy_l l hl l.length 0 [] (by omega) rfl
theorem copyDisk_l (b c : List Int) (l : List S45) (hl : l.length ≤ 1048576) (hx : ∀ x ∈ l, x.f1.length ≤ 1048576) (d : Nat) : ∀ (i : Nat) (y : List S45), i + d = l.length → y = l.take i → Ev (fun k => spec_l1CopyDisk.l0 k i b l c y) (c, l) := by
  induction d with
  | zero =>
    intro i y hi hy
    refine Ev.step (fun k => by simp only [spec_l1CopyDisk.l0]; exact if_neg (by omega)) ?_
    rw [hy, List.take_of_length_le (by omega)]; exact Ev.now _
  | succ d ih =>
    intro i y hi hy
    have e : rd_T45 l i = l[i] := by simp [rd_T45, show i < l.length by omega]
    have hyl : y.length ≤ i := by rw [hy, List.length_take]; omega
    have := hx l[i] (List.getElem_mem _)
    refine Ev.step (fun k => by simp only [spec_l1CopyDisk.l0]; rw [if_pos (by omega), if_pos (by omega), e, w64 (by omega) (by omega)]) ?_
    refine Ev.bind (l1Copy_ev _ (by omega)) (Ev.pos (by omega) (ih (i + 1) _ (by omega) ?_))
    rw [hy, List.take_add_one, List.getElem?_eq_getElem (by omega)]; rfl
theorem copyDisk_ev (b : List Int) (l : List S45) (hb : b.length ≤ 1048576) (hl : l.length ≤ 1048576) (hx : ∀ x ∈ l, x.f1.length ≤ 1048576) : Ev (fun k => spec_l1CopyDisk.f k b l) (b, l) := by
  simp only [spec_l1CopyDisk.f]
  exact Ev.bind (l1Copy_ev b (by omega)) (copyDisk_l b b l hl hx l.length 0 [] (by omega) rfl)
def writeM (b : List Int) (l : List S45) (a : Int) (d : List Int) : List Int × List S45 := if validD b l = true ∧ l.length ≠ 2000 ∧ 0 ≤ a ∧ a < (b.length / 64 : Nat) ∧ d.length = 64 then (b, l ++ [⟨a, d⟩]) else ([], [])
theorem specWrite_nil (b : List Int) (l : List S45) (a : Int) (d : List Int) : Ev (fun k => spec_DiskWrite.j0 k a d true b l) ([], []) := Ev.step (fun k => by simp only [spec_DiskWrite.j0]; exact if_pos trivial) (Ev.now _)
theorem specWrite_ev (b : List Int) (l : List S45) (a : Int) (d : List Int) (hb : b.length ≤ 1048576) (hl : l.length ≤ 1048576) (hx : ∀ x ∈ l, x.f1.length ≤ 1048576) (hd : d.length ≤ 1048576) : Ev (fun k => spec_DiskWrite.f k b l a d) (writeM b l a d) := by
  have hq : ((b.length : Int) / 64) = ((b.length / 64 : Nat) : Int) := by omega
  simp only [spec_DiskWrite.f]
  refine Ev.bind (specValid_ev b l (by omega) (by omega)) ?_
  by_cases hv : validD b l = true
  · refine Ev.pos hv ?_
    by_cases h2 : (l.length : Int) = 2000
    · rw [show writeM b l a d = ([], []) from if_neg (by omega)]
      exact Ev.pos h2 (specWrite_nil _ _ _ _)
    refine Ev.neg h2 ?_
    by_cases h0 : a < 0
    · rw [show writeM b l a d = ([], []) from if_neg (by omega)]
      exact Ev.pos h0 (specWrite_nil _ _ _ _)
    refine Ev.neg h0 (Ev.bindS (a := ((b.length / 64 : Nat) : Int)) (by simp only [spec_l1Blocks.f]; rw [hq, w64 (by omega) (by omega)]) ?_)
    by_cases h1 : a ≥ ((b.length / 64 : Nat) : Int)
    · rw [show writeM b l a d = ([], []) from if_neg (by omega)]
      exact Ev.pos h1 (specWrite_nil _ _ _ _)
    refine Ev.neg h1 ?_
    by_cases h3 : d.length = 64
    · rw [show writeM b l a d = (b, l ++ [⟨a, d⟩]) from if_pos ⟨hv, by omega, by omega, by omega, h3⟩]
      have e : ((d.length : Int) != 64) = false := bne_eq_false_iff_eq.mpr (by omega)
      refine Ev.step (fun k => by simp only [spec_DiskWrite.j0]; rw [e, if_neg (by decide)]) ?_
      exact Ev.bind (copyDisk_ev b l hb hl hx) (Ev.bind (l1Copy_ev d (by omega)) (Ev.pos (by simp only; omega) (Ev.now _)))
    · rw [show writeM b l a d = ([], []) from if_neg (fun h => h3 h.2.2.2.2)]
      have e : ((d.length : Int) != 64) = true := bne_iff_ne.mpr (by omega)
      rw [e]
      exact specWrite_nil _ _ _ _
  · rw [show writeM b l a d = ([], []) from if_neg (fun h => hv h.1)]
    exact Ev.neg hv (specWrite_nil _ _ _ _)
theorem implWrite_ev (b : List Int) (l : List S45) (a : Int) (d : List Int) (hb : b.length ≤ 1048576) (hl : l.length ≤ 1048576) : Ev (fun k => impl_DiskWrite.f k b l a d) (writeM b l a d) := by
  have hq : ((b.length : Int) / 64) = ((b.length / 64 : Nat) : Int) := by omega
  simp only [impl_DiskWrite.f]
  refine Ev.bind (implValid_ev b l (by omega) (by omega)) ?_
  by_cases hv : validD b l = true
  · refine Ev.pos hv ?_
    by_cases h2 : (l.length : Int) = 2000
    · rw [show writeM b l a d = ([], []) from if_neg (by omega)]
      exact Ev.pos h2 (Ev.now _)
    refine Ev.neg h2 ?_
    by_cases h0 : a < 0
    · rw [show writeM b l a d = ([], []) from if_neg (by omega)]
      exact Ev.pos h0 (Ev.now _)
    refine Ev.neg h0 (Ev.bindS (a := ((b.length / 64 : Nat) : Int)) (by simp only [impl_Disk_blocks.f]; rw [hq, w64 (by omega) (by omega)]) ?_)
    by_cases h1 : a ≥ ((b.length / 64 : Nat) : Int)
    · rw [show writeM b l a d = ([], []) from if_neg (by omega)]
      exact Ev.pos h1 (Ev.now _)
    refine Ev.neg h1 ?_
    by_cases h3 : d.length = 64
    · rw [show writeM b l a d = (b, l ++ [⟨a, d⟩]) from if_pos ⟨hv, by omega, by omega, by omega, h3⟩]
      refine Ev.pos (by omega) (Ev.ofE ?_)
      simp only [validD, Bool.and_eq_true] at hv
      have h2k : l.length ≤ 2000 := of_decide_eq_true hv.1.2
      simp only [impl_DiskWrite.g]
      exact if_pos ⟨by omega, by omega, h3, okW_64 hv.2, by omega⟩
    · rw [show writeM b l a d = ([], []) from if_neg (fun h => h3 h.2.2.2.2)]
      exact Ev.neg (by omega) (Ev.now _)
  · rw [show writeM b l a d = ([], []) from if_neg (fun h => hv h.1)]
    exact Ev.neg hv (Ev.now _)
theorem put1_0 (D : List Int) (b : Nat) (data : List Int) : put1 D b data 0 = D := by simp [put1]
theorem put1_set (D : List Int) (b : Nat) (data : List Int) (j : Nat) (hb : 64 * b + 64 ≤ D.length) (hj : j < 64) (hd : data.length = 64) : (put1 D b data j).set (64 * b + j) (rd data (j : Int)) = put1 D b data (j + 1) := by
  have e : rd data (j : Int) = data[j] := by unfold rd; simp [show j < data.length by omega]
  have hl : (D.take (64 * b) ++ data.take j).length = 64 * b + j := by simp only [List.length_append, List.length_take]; omega
  unfold put1
  rw [List.set_append_right _ _ (by omega), hl, Nat.sub_self, List.drop_eq_getElem_cons (show 64 * b + j < D.length by omega), List.set_cons_zero, e, List.take_add_one, List.getElem?_eq_getElem (show j < data.length by omega)]
  simp only [Option.toList_some, List.append_assoc, List.singleton_append, Nat.add_assoc, List.cons_append, List.nil_append]
theorem settle_1 (ch : List Int) (b : List Int) (l : List S45) (cs : List Int) (hl : l.length ≤ 2000) (i : Nat) (hi : i < l.length) (n : Nat) (hn : (rd_T45 l (i : Int)).f0 = (n : Int)) (D : List Int) (hD : 64 * n + 64 ≤ D.length) (hDl : D.length ≤ 1048576) (hd : (rd_T45 l (i : Int)).f1.length = 64) (hcl : i < cs.length) (c : Nat) (hc : rd cs (i : Int) = (c : Int)) (hc2 : c ≤ 64) (r : List Int × List S45)
    (next : Ev (fun k => spec_l1Settle.l0 k cs (i + 1 : Nat) b l (put1 D n (rd_T45 l (i : Int)).f1 c)) r) (d : Nat) : ∀ j : Nat, j + d = c → Ev (fun k => spec_l1Settle.l1 k cs i j b l (put1 D n (rd_T45 l (i : Int)).f1 j)) r := by
  induction d with
  | zero =>
    intro j hj
    obtain rfl : j = c := by omega
    refine Ev.step (fun k => by simp only [spec_l1Settle.l1]; rw [if_pos (by omega), if_pos (by omega), hc, if_neg (by omega), w64 (x := (i : Int) + 1) (by omega) (by omega)]) ?_
    exact next
  | succ d ih =>
    intro j hj
    have hpl := put1_len (b := n) (c := j) hD (by omega) hd
    have e1 : wrap64 (wrap64 ((rd_T45 l (i : Int)).f0 * 64) + (j : Int)) = ((64 * n + j : Nat) : Int) := by
      rw [hn, w64 (x := (n : Int) * 64) (by omega) (by omega), w64 (by omega) (by omega)]; omega
    refine Ev.step (fun k => by simp only [spec_l1Settle.l1]; rw [if_pos (by omega), if_pos (by omega), hc, if_pos (by omega), if_pos (by omega), if_pos (by omega), if_pos (by omega), e1, if_pos (by omega), if_pos (by omega), w64 (x := (j : Int) + 1) (by omega) (by omega), Int.toNat_natCast, put1_set D n _ j hD (by omega) hd]) ?_
    exact ih (j + 1) (by omega)
theorem settle_l (ch : List Int) (b : List Int) (l : List S45) (cs : List Int) (hl : l.length ≤ 2000) (hbl : b.length ≤ 1048576) (hv : ∀ i : Nat, i < l.length → (rd_T45 l (i : Int)).f1.length = 64) (hb : ∀ i : Nat, i < l.length → 0 ≤ (rd_T45 l (i : Int)).f0 ∧ 64 * (rd_T45 l (i : Int)).f0 + 64 ≤ b.length) (hcs : cs.length = l.length) (hcv : ∀ i : Nat, i < l.length → rd cs (i : Int) = chI ch i) (d : Nat) : ∀ i : Nat, i + d = l.length → Ev (fun k => spec_l1Settle.l0 k cs i b l (crashD b l ch i)) (crashD b l ch l.length, []) := by
  induction d with
  | zero =>
    intro i hi
    obtain rfl : i = l.length := by omega
    exact Ev.step (fun k => by simp only [spec_l1Settle.l0]; exact if_neg (by omega)) (Ev.now _)
  | succ d ih =>
    intro i hi
    have hlen := crashD_len (ch := ch) hv hb i (by omega)
    have hbi := hb i (by omega)
    have hci := chI_le ch i
    refine Ev.step (fun k => by simp only [spec_l1Settle.l0]; rw [if_pos (by omega)]) ?_
    have h := settle_1 ch b l cs hl i (by omega) (rd_T45 l (i : Int)).f0.toNat (by omega) (crashD b l ch i) (by omega) (by omega) (hv i (by omega)) (by omega) (chI ch i).toNat (by rw [hcv i (by omega)]; omega) (by omega) _ (ih (i + 1) (by omega)) (chI ch i).toNat 0 (by omega)
    rw [put1_0] at h
    exact h
theorem valid_parts {b : List Int} {l : List S45} (h : validD b l = true) : 64 ≤ b.length ∧ l.length ≤ 2000 ∧ l.all (fun p => decide (p.f1.length = 64)) = true ∧ l.all (fun p => decide (0 ≤ p.f0 ∧ 64 * p.f0 + 64 ≤ (b.length : Int))) = true := by
  simp only [validD, Bool.and_eq_true, decide_eq_true_eq] at h
  obtain ⟨⟨⟨⟨h1, h2⟩, h3⟩, h4⟩, h5⟩ := h
  refine ⟨by omega, h4, ?_, ?_⟩
  · rw [List.all_eq_true] at *
    intro x hx
    have := h5 x hx
    simp only [okW, Bool.and_eq_true] at this
    exact this.2
  · rw [List.all_eq_true] at *
    intro x hx
    have := h5 x hx
    simp only [okW, Bool.and_eq_true, Bool.not_eq_true', decide_eq_false_iff_not] at this
    exact decide_eq_true (by omega)
theorem put1_get (D : List Int) (b : Nat) (d : List Int) (hb : 64 * b + 64 ≤ D.length) (hd : d.length = 64) (i : Nat) : (put1 D b d 64)[i]? = if 64 * b ≤ i ∧ i < 64 * b + 64 then d[i - 64 * b]? else D[i]? := by
  have e : d.take 64 = d := List.take_of_length_le (by omega)
  unfold put1
  rw [e]
  have l1 : (D.take (64 * b)).length = 64 * b := by simp; omega
  by_cases h1 : i < 64 * b
  · rw [if_neg (by omega), List.getElem?_append_left (by simp only [List.length_append, l1]; omega), List.getElem?_append_left (by omega), List.getElem?_take, if_pos h1]
  · by_cases h2 : i < 64 * b + 64
    · rw [if_pos (by omega), List.getElem?_append_left (by simp only [List.length_append, l1]; omega), List.getElem?_append_right (by omega), l1]
    · rw [if_neg (by omega), List.getElem?_append_right (by simp only [List.length_append, l1]; omega), List.length_append, l1, hd, List.getElem?_drop]
      congr 1; omega
theorem put1_comm (D : List Int) (a b : Nat) (x y : List Int) (hab : a ≠ b) (ha : 64 * a + 64 ≤ D.length) (hb : 64 * b + 64 ≤ D.length) (hx : x.length = 64) (hy : y.length = 64) : put1 (put1 D a x 64) b y 64 = put1 (put1 D b y 64) a x 64 := by
  have l1 := put1_len (c := 64) ha (Nat.le_refl _) hx
  have l2 := put1_len (c := 64) hb (Nat.le_refl _) hy
  apply List.ext_getElem?
  intro i
  rw [put1_get _ _ _ (by omega) hy, put1_get _ _ _ ha hx, put1_get _ _ _ (by omega) hx, put1_get _ _ _ hb hy]
  by_cases h1 : 64 * a ≤ i ∧ i < 64 * a + 64
  · rw [if_neg (show ¬ (64 * b ≤ i ∧ i < 64 * b + 64) by omega), if_pos h1, if_pos h1]
  · rw [if_neg h1, if_neg h1]
theorem put1_twice (D : List Int) (a : Nat) (x y : List Int) (ha : 64 * a + 64 ≤ D.length) (hx : x.length = 64) (hy : y.length = 64) : put1 (put1 D a x 64) a y 64 = put1 D a y 64 := by
  have l1 := put1_len (c := 64) ha (Nat.le_refl _) hx
  apply List.ext_getElem?
  intro i
  rw [put1_get _ _ _ (by omega) hy, put1_get _ _ _ ha hx, put1_get _ _ _ ha hy]
  by_cases h1 : 64 * a ≤ i ∧ i < 64 * a + 64
  · rw [if_pos h1, if_pos h1]
  · rw [if_neg h1, if_neg h1, if_neg h1]
def okP (n : Nat) (p : Int × List Int) : Prop := 0 ≤ p.1 ∧ 64 * p.1 + 64 ≤ (n : Int) ∧ p.2.length = 64
theorem syncD_put {n : Nat} : ∀ (m : List (Int × List Int)) (D : List Int), D.length = n → (∀ p ∈ m, okP n p) → ∀ (k : Int) (v : List Int), okP n (k, v) → (∀ p ∈ m, p.1 ≠ k) → syncD (put1 D k.toNat v 64) m = put1 (syncD D m) k.toNat v 64 := by
  intro m
  induction m with
  | nil => intro D _ _ k v _ _; rfl
  | cons p m ih =>
    intro D hD hm k v hk hne
    have hp := hm p (by simp)
    have hpk := hne p (by simp)
    obtain ⟨a1, a2, a3⟩ := hp
    obtain ⟨b1, b2, b3⟩ := hk
    simp only at b1 b2 b3
    have e : put1 (put1 D k.toNat v 64) p.1.toNat p.2 64 = put1 (put1 D p.1.toNat p.2 64) k.toNat v 64 := put1_comm D _ _ _ _ (by omega) (by omega) (by omega) b3 a3
    have hl : (put1 D p.1.toNat p.2 64).length = n := by rw [put1_len (by omega) (Nat.le_refl _) a3]; exact hD
    have := ih (put1 D p.1.toNat p.2 64) hl (fun q hq => hm q (by simp [hq])) k v ⟨b1, b2, b3⟩ (fun q hq => hne q (by simp [hq]))
    simp only [syncD, List.foldl_cons] at this ⊢
    rw [e]
    exact this
theorem syncD_aset {n : Nat} : ∀ (m : List (Int × List Int)) (D : List Int), D.length = n → (∀ p ∈ m, okP n p) → (m.map Prod.fst).Nodup → ∀ (k : Int) (v : List Int), okP n (k, v) → syncD D (YtejecjjimggjeaaH.aset m k v) = put1 (syncD D m) k.toNat v 64 := by
  intro m
  induction m with
  | nil => intro D _ _ _ k v _; rfl
  | cons p m ih =>
    intro D hD hm hnd k v hk
    obtain ⟨k', v'⟩ := p
    obtain ⟨a1, a2, a3⟩ := hm (k', v') (by simp)
    obtain ⟨b1, b2, b3⟩ := hk
    simp only at a1 a2 a3 b1 b2 b3
    rw [List.map_cons, List.nodup_cons] at hnd
    have hl : (put1 D k'.toNat v' 64).length = n := by rw [put1_len (by omega) (Nat.le_refl _) a3]; exact hD
    by_cases c : k' = k
    · subst c
      have hne : ∀ q ∈ m, q.1 ≠ k' := fun q hq e => hnd.1 (show k' ∈ m.map Prod.fst by rw [← e]; exact List.mem_map_of_mem (f := Prod.fst) hq)
      have h1 := syncD_put m (put1 D k'.toNat v' 64) hl (fun q hq => hm q (by simp [hq])) k' v ⟨b1, b2, b3⟩ hne
      rw [put1_twice D _ _ _ (by omega) a3 b3] at h1
      simp only [YtejecjjimggjeaaH.aset, if_pos, syncD, List.foldl_cons] at h1 ⊢
      exact h1
    · have := ih (put1 D k'.toNat v' 64) hl (fun q hq => hm q (by simp [hq])) hnd.2 k v ⟨b1, b2, b3⟩
      simp only [YtejecjjimggjeaaH.aset, if_neg c, syncD, List.foldl_cons] at this ⊢
      exact this
theorem aset_nodup : ∀ (m : List (Int × List Int)) (k : Int) (v : List Int), (m.map Prod.fst).Nodup → ((YtejecjjimggjeaaH.aset m k v).map Prod.fst).Nodup ∧ ∀ p ∈ YtejecjjimggjeaaH.aset m k v, p.1 = k ∨ p.1 ∈ m.map Prod.fst := by
  intro m
  induction m with
  | nil => intro k v _; refine ⟨by simp [YtejecjjimggjeaaH.aset], fun p hp => .inl ?_⟩; simp only [YtejecjjimggjeaaH.aset, List.mem_singleton] at hp; rw [hp]
  | cons q m ih =>
    intro k v h
    obtain ⟨k', v'⟩ := q
    rw [List.map_cons, List.nodup_cons] at h
    by_cases c : k' = k
    · subst c
      simp only [YtejecjjimggjeaaH.aset, if_pos]
      refine ⟨by rw [List.map_cons, List.nodup_cons]; exact h, fun p hp => ?_⟩
      rcases List.mem_cons.mp hp with rfl | hp
      · exact .inl rfl
      · exact .inr (by rw [List.map_cons]; exact List.mem_cons_of_mem _ (List.mem_map_of_mem hp))
    · obtain ⟨i1, i2⟩ := ih k v h.2
      simp only [YtejecjjimggjeaaH.aset, if_neg c]
      refine ⟨?_, fun p hp => ?_⟩
      · rw [List.map_cons, List.nodup_cons]
        refine ⟨fun hm => ?_, i1⟩
        obtain ⟨p, hp, he⟩ := List.mem_map.mp hm
        rcases i2 p hp with h1 | h1
        · exact c (by simp only at he; rw [← he, h1])
        · exact h.1 (by simp only at he; rw [← he]; exact h1)
      · rcases List.mem_cons.mp hp with rfl | hp
        · exact .inr (by simp)
        · rcases i2 p hp with h1 | h1
          · exact .inl h1
          · exact .inr (by rw [List.map_cons]; exact List.mem_cons_of_mem _ h1)
theorem yl_self : ∀ (m : List (Int × List Int)), (m.map Prod.fst).Nodup → yl m = m := by
  intro m
  induction m with
  | nil => intro _; rfl
  | cons p m ih =>
    intro h
    obtain ⟨k, v⟩ := p
    rw [List.map_cons, List.nodup_cons] at h
    have := ih h.2
    unfold yl at this ⊢
    rw [List.map_cons]
    simp only [YtejecjjimggjeaaH.aget, if_pos, Option.getD_some, List.cons.injEq, true_and]
    rw [List.map_congr_left (g := fun p : Int × List Int => (p.1, (YtejecjjimggjeaaH.aget m p.1).getD z64))]
    · exact this
    · intro q hq
      have hne : ¬ k = q.1 := fun e => h.1 (show k ∈ m.map Prod.fst by rw [e]; exact List.mem_map_of_mem (f := Prod.fst) hq)
      simp only [YtejecjjimggjeaaH.aget, if_neg hne]
theorem yng_nodup (l : List S45) : ((yng l).map Prod.fst).Nodup := by
  have : ∀ (l : List S45) (m : List (Int × List Int)), (m.map Prod.fst).Nodup → ((l.foldl (fun m p => YtejecjjimggjeaaH.aset m p.f0 p.f1) m).map Prod.fst).Nodup := by
    intro l
    induction l with
    | nil => intro m hm; exact hm
    | cons x l ih => intro m hm; exact ih _ (aset_nodup m _ _ hm).1
  exact this l [] (by simp)
theorem sync_is (b : List Int) (l : List S45) (ch : List Int) (hch : ∀ i : Nat, i < l.length → chI ch i = 64) (h64 : l.all (fun p => decide (p.f1.length = 64)) = true) (hbd : l.all (fun p => decide (0 ≤ p.f0 ∧ 64 * p.f0 + 64 ≤ (b.length : Int))) = true) : syncD b (yl (yng l)) = crashD b l ch l.length := by
  rw [yl_self _ (yng_nodup l)]
  have key : ∀ i : Nat, i ≤ l.length → syncD b (yng (l.take i)) = crashD b l ch i := by
    intro i
    induction i with
    | zero => intro _; rfl
    | succ i ih =>
      intro hi
      have hv := pend_all h64 i (by omega)
      have hb := pend_bd hbd i (by omega)
      have h64' : (l.take i).all (fun p => decide (p.f1.length = 64)) = true := List.all_eq_true.mpr fun p hp => List.all_eq_true.mp h64 p (List.mem_of_mem_take hp)
      have hbd' : (l.take i).all (fun p => decide (0 ≤ p.f0 ∧ 64 * p.f0 + 64 ≤ (b.length : Int))) = true := List.all_eq_true.mpr fun p hp => List.all_eq_true.mp hbd p (List.mem_of_mem_take hp)
      rw [take_rd (show i < l.length by omega), yng_snoc, syncD_aset (n := b.length) (yng (l.take i)) b rfl (fun p hp => ⟨(yng_bd hbd' p hp).1, (yng_bd hbd' p hp).2, yng_64 h64' p hp⟩) (yng_nodup _) _ _ ⟨hb.1, hb.2, hv⟩, ih (by omega)]
      simp only [crashD]
      rw [hch i (by omega)]
      rfl
  have := key l.length (Nat.le_refl _)
  rw [List.take_length] at this
  exact this
theorem specSync_l (b : List Int) (l : List S45) (hl : l.length ≤ 2000) (r : List Int × List S45) (fin : Ev (fun k => spec_l1Settle.f k b l (List.replicate l.length 64)) r) (d : Nat) : ∀ i : Nat, i + d = l.length → Ev (fun k => spec_DiskSync.l0 k (List.replicate i 64) i b l) r := by
  induction d with
  | zero =>
    intro i hi
    obtain rfl : i = l.length := by omega
    refine Ev.step (fun k => by simp only [spec_DiskSync.l0]; exact if_neg (by omega)) ?_
    obtain ⟨r1, r2⟩ := r
    exact Ev.bind fin (Ev.now _)
  | succ d ih =>
    intro i hi
    have hnx := ih (i + 1) (by omega)
    rw [List.replicate_succ'] at hnx
    have hlen : (List.replicate i (64 : Int)).length < 17592186044416 := by simp; omega
    refine Ev.step (fun k => by
      simp only [spec_DiskSync.l0]
      rw [if_pos (by omega), if_pos hlen, w64 (by omega) (by omega)]) ?_
    exact hnx
def syncM (b : List Int) (l : List S45) : List Int × List S45 := if validD b l = true then (syncD b (yl (yng l)), []) else ([], [])
theorem ch64 (n : Nat) : ∀ i : Nat, i < n → chI (List.replicate n 64) i = 64 := by
  intro i hi
  unfold chI rd
  simp only [List.length_replicate, Int.toNat_natCast]
  rw [if_pos (show (i : Int) < (n : Int) by omega)]
  have e : (List.replicate n (64 : Int)).getD i 0 = 64 := by simp [hi]
  rw [e]
  decide
theorem specSync_ev (b : List Int) (l : List S45) (hb : b.length ≤ 1048576) (hl : l.length ≤ 1048576) : Ev (fun k => spec_DiskSync.f k b l) (syncM b l) := by
  simp only [spec_DiskSync.f]
  refine Ev.bind (specValid_ev b l (by omega) (by omega)) ?_
  by_cases hv : validD b l = true
  · refine Ev.pos hv ?_
    obtain ⟨v1, v2, v3, v4⟩ := valid_parts hv
    rw [show syncM b l = (crashD b l (List.replicate l.length 64) l.length, []) by unfold syncM; rw [if_pos hv, sync_is b l _ (ch64 l.length) v3 v4]]
    refine specSync_l b l v2 _ ?_ l.length 0 (by omega)
    simp only [spec_l1Settle.f]
    exact Ev.bind (l1Copy_ev b (by omega)) (settle_l (List.replicate l.length 64) b l _ v2 hb (pend_all v3) (pend_bd v4) (by simp) (fun i hi => by rw [ch64 l.length i hi]; unfold rd; simp [hi]) l.length 0 (by omega))
  · rw [show syncM b l = ([], []) from if_neg hv]
    exact Ev.neg hv (Ev.now _)
theorem implSync_ev (b : List Int) (l : List S45) (hb : b.length ≤ 1048576) (hl : l.length ≤ 1048576) : Ev (fun k => impl_DiskSync.f k b l) (syncM b l) := by
  simp only [impl_DiskSync.f]
  refine Ev.bind (implValid_ev b l (by omega) (by omega)) ?_
  by_cases hv : validD b l = true
  · refine Ev.pos hv ?_
    rw [show syncM b l = (syncD b (yl (yng l)), []) from if_pos hv]
    obtain ⟨v1, v2, v3, v4⟩ := valid_parts hv
    refine Ev.ofE ?_
    simp only [impl_DiskSync.g]
    exact if_pos ⟨by omega, by omega, by omega, v3, v4⟩
  · rw [show syncM b l = ([], []) from if_neg hv]
    exact Ev.neg hv (Ev.now _)
theorem fill_l {c : List Int} {a m : Int} (h : StOk c a m) (z x : Int) (hx0 : 0 ≤ x) (hx1 : x ≤ 255) (d : Nat) : ∀ (i : Nat), i + d = 64 → ∃ v a' m', Ev (fun k => spec_l1Fill.l0 k x (List.replicate i x) i c a m z) (v, a', m', z) ∧ StOk c a' m' ∧ v.length = 64 ∧ okB v := by
  induction d with
  | zero =>
    intro i hi
    obtain ⟨r1, a1, m1, e1, h1, q1, q2⟩ := next_e h z 64 (by omega)
    obtain ⟨r2, a2, m2, e2, h2, q3, q4⟩ := next_e h1 z 256 (by omega)
    refine ⟨(List.replicate i x).set r1.toNat (r2 % 256), a2, m2, Ev.step (f := fun _ => some ((List.replicate i x).set r1.toNat (r2 % 256), a2, m2, z)) (fun k => ?_) (Ev.now _), h2, by simp; omega, ?_⟩
    · simp only [spec_l1Fill.l0]
      rw [if_neg (by omega), e1]
      simp only [Option.bind_some]
      rw [e2]
      simp only [Option.bind_some]
      rw [if_pos q1, if_pos (by rw [List.length_replicate]; omega)]
    · intro y hy
      rcases List.mem_or_eq_of_mem_set hy with hy | rfl
      · rw [List.eq_of_mem_replicate hy]; exact ⟨hx0, hx1⟩
      · omega
  | succ d ih =>
    intro i hi
    obtain ⟨v, a', m', he, r⟩ := ih (i + 1) (by omega)
    refine ⟨v, a', m', Ev.step (fun k => ?_) he, r⟩
    simp only [spec_l1Fill.l0]
    rw [if_pos (by omega), if_pos (by rw [List.length_replicate]; omega), w64 (by omega) (by omega), ← List.replicate_succ']
    rfl
theorem fill_e {c : List Int} {a m : Int} (h : StOk c a m) (z : Int) : ∃ v a' m', Ev (fun k => spec_l1Fill.f k c a m z) (v, a', m', z) ∧ StOk c a' m' ∧ v.length = 64 ∧ okB v := by
  obtain ⟨r1, a1, m1, e1, h1, q1, q2⟩ := next_e h z 255 (by omega)
  obtain ⟨v, a', m', he, r⟩ := fill_l h1 z ((wrap64 (1 + r1)) % 256) (by omega) (by omega) 64 0 (by omega)
  refine ⟨v, a', m', ?_, r⟩
  simp only [spec_l1Fill.f]
  exact Ev.bindS e1 he
/-- A disk of a bounded size. -/
def Bd (n : Nat) (b : List Int) (l : List S45) : Prop := b.length ≤ 10 * n ∧ l.length ≤ n ∧ ∀ x ∈ l, x.f1.length ≤ 100
theorem write_bd {b : List Int} {l : List S45} (h : Bd 2000 b l) (a : Int) (d : List Int) (hd : d.length ≤ 100) : Bd 2000 (writeM b l a d).1 (writeM b l a d).2 := by
  obtain ⟨h1, h2, h3⟩ := h
  by_cases hc : validD b l = true ∧ l.length ≠ 2000 ∧ 0 ≤ a ∧ a < (b.length / 64 : Nat) ∧ d.length = 64
  · rw [show writeM b l a d = (b, l ++ [⟨a, d⟩]) from if_pos hc]
    refine ⟨h1, ?_, fun x hx => ?_⟩
    · simp only [List.length_append, List.length_singleton]; have := hc.2.1; omega
    · rcases List.mem_append.mp hx with h | h
      · exact h3 x h
      · simp only [List.mem_singleton] at h; subst h; exact hd
  · rw [show writeM b l a d = ([], []) from if_neg hc]
    exact ⟨by simp, by simp, by simp⟩
theorem sync_bd {b : List Int} {l : List S45} (h : Bd 2000 b l) : Bd 2000 (syncM b l).1 (syncM b l).2 := by
  by_cases hc : validD b l = true
  · obtain ⟨v1, v2, v3, v4⟩ := valid_parts hc
    rw [show syncM b l = (syncD b (yl (yng l)), []) from if_pos hc]
    exact ⟨by rw [syncD_len _ (yl_ok (yng_64 v3) (yng_bd v4))]; exact h.1, by simp, by simp⟩
  · rw [show syncM b l = ([], []) from if_neg hc]
    exact ⟨by simp, by simp, by simp⟩
theorem dw_ev {b : List Int} {l : List S45} (h : Bd 2000 b l) (a : Int) (d : List Int) (hd : d.length ≤ 100) : Ev (fun k => spec_DiskWrite.f k b l a d) (writeM b l a d) :=
  specWrite_ev b l a d (by have := h.1; omega) (by have := h.2.1; omega) (fun x hx => by have := h.2.2 x hx; omega) (by omega)
theorem good_l1 {c : List Int} (z x4 : Int) (hx4 : x4 < 9223372036854775808) (d : Nat) : ∀ (a m : Int) (b : List Int) (l : List S45), d ≤ 1000000 → StOk c a m → Bd 2000 b l → ∃ b' l' a' m', Ev (fun k => spec_l1DrawGood.l1 k x4 d c a m z b l) (b', l', a', m', z) ∧ StOk c a' m' ∧ Bd 2000 b' l' := by
  induction d with
  | zero => intro a m b l _ h hb; exact ⟨b, l, a, m, Ev.step (fun k => by simp only [spec_l1DrawGood.l1]; exact if_neg (by omega)) (Ev.now _), h, hb⟩
  | succ d ih =>
    intro a m b l hd h hb
    obtain ⟨r1, a1, m1, e1, h1, _⟩ := next_e h z x4 hx4
    obtain ⟨v, a2, m2, e2, h2, hv, _⟩ := fill_e h1 z
    obtain ⟨b', l', a', m', he, r⟩ := ih a2 m2 _ _ (by omega) h2 (write_bd hb r1 v (by omega))
    refine ⟨b', l', a', m', ?_, r⟩
    refine Ev.step (f := fun k => (spec_l1Fill.f k c a1 m1 z).bind fun p => (spec_DiskWrite.f k b l r1 p.1).bind fun q => spec_l1DrawGood.l1 k x4 d c p.2.1 p.2.2.1 p.2.2.2 q.1 q.2) (fun k => by simp only [spec_l1DrawGood.l1]; rw [if_pos (by omega), e1, w64 (x := ((d + 1 : Nat) : Int) - 1) (by omega) (by omega), show ((d + 1 : Nat) : Int) - 1 = (d : Int) by omega]; rfl) ?_
    exact Ev.bind e2 (Ev.bind (dw_ev hb r1 v (by omega)) he)
theorem good_l0 {c : List Int} (z : Int) (hz0 : 1 ≤ z) (hz1 : z ≤ 7) (n : Nat) (hn : n ≤ 1000) (d : Nat) : ∀ (i : Nat) (a m : Int) (b : List Int) (l : List S45), i + d = n → StOk c a m → Bd 2000 b l → ∃ b' l' a' m', Ev (fun k => spec_l1DrawGood.l0 k n i c a m z b l) (b', l', a', m', z) ∧ StOk c a' m' ∧ Bd 2000 b' l' := by
  induction d with
  | zero =>
    intro i a m b l hi h hb
    have hw : wrap64 (3 + z) = 3 + z := w64 (by omega) (by omega)
    obtain ⟨r1, a1, m1, e1, h1, q1, q2⟩ := next_e h z (3 + z) (by omega)
    obtain ⟨t, rfl⟩ := Int.eq_ofNat_of_zero_le q1
    obtain ⟨b', l', a', m', he, r⟩ := good_l1 (c := c) z n (by omega) t a1 m1 _ _ (by omega) h1 (sync_bd hb)
    refine ⟨b', l', a', m', ?_, r⟩
    refine Ev.step (f := fun k => (spec_DiskSync.f k b l).bind fun bt => spec_l1DrawGood.l1 k n t c a1 m1 z bt.1 bt.2) (fun k => by simp only [spec_l1DrawGood.l0]; rw [if_neg (by omega), hw, e1]; rfl) ?_
    exact Ev.bind (specSync_ev b l (by have := hb.1; omega) (by have := hb.2.1; omega)) he
  | succ d ih =>
    intro i a m b l hi h hb
    obtain ⟨r1, a1, m1, e1, h1, q1, q2⟩ := next_e h z 3 (by omega)
    have hw : wrap64 ((i : Int) + 1) = ((i + 1 : Nat) : Int) := by rw [w64 (by omega) (by omega)]; rfl
    by_cases c1 : r1 > 0
    · obtain ⟨v, a2, m2, e2, h2, hv, _⟩ := fill_e h1 z
      obtain ⟨b', l', a', m', he, r⟩ := ih (i + 1) a2 m2 _ _ (by omega) h2 (write_bd hb i v (by omega))
      refine ⟨b', l', a', m', ?_, r⟩
      refine Ev.step (f := fun k => (spec_l1Fill.f k c a1 m1 z).bind fun p => (spec_DiskWrite.f k b l i p.1).bind fun q => spec_l1DrawGood.l0 k n (i + 1 : Nat) c p.2.1 p.2.2.1 p.2.2.2 q.1 q.2) (fun k => by simp only [spec_l1DrawGood.l0]; rw [if_pos (by omega), e1, hw]; simp only [Option.bind_some]; rw [if_pos c1]) ?_
      exact Ev.bind e2 (Ev.bind (dw_ev hb i v (by omega)) he)
    · obtain ⟨b', l', a', m', he, r⟩ := ih (i + 1) a1 m1 b l (by omega) h1 hb
      refine ⟨b', l', a', m', ?_, r⟩
      exact Ev.step (fun k => by simp only [spec_l1DrawGood.l0]; rw [if_pos (by omega), e1]; simp only [Option.bind_some]; rw [if_neg c1, hw]) he
theorem good_e {c : List Int} {a m : Int} (h : StOk c a m) (z : Int) (hz0 : 1 ≤ z) (hz1 : z ≤ 7) : ∃ b l a' m', Ev (fun k => spec_l1DrawGood.f k c a m z) (b, l, a', m', z) ∧ StOk c a' m' ∧ Bd 2000 b l := by
  obtain ⟨r1, a1, m1, e1, h1, q1, q2⟩ := next_e h z 5 (by omega)
  obtain ⟨t, rfl⟩ := Int.eq_ofNat_of_zero_le q1
  have hw : wrap64 (1 + (t : Int)) = ((1 + t : Nat) : Int) := by rw [w64 (by omega) (by omega)]; omega
  have hw2 : wrap64 (((1 + t : Nat) : Int) * 64) = (((1 + t) * 64 : Nat) : Int) := by rw [w64 (by omega) (by omega)]; omega
  have hn : spec_NewDisk.f ((1 + t : Nat) : Int) = some (List.replicate ((1 + t) * 64) 0, []) := by
    simp only [spec_NewDisk.f]
    rw [if_neg (by omega), if_neg (by omega), hw2, if_pos (by omega), Int.toNat_natCast, if_pos (by omega)]
  have hbk : spec_l1Blocks.f (List.replicate ((1 + t) * 64) (0 : Int)) [] = some ((1 + t : Nat) : Int) := by
    simp only [spec_l1Blocks.f, List.length_replicate]
    rw [w64 (by omega) (by omega), show ((((1 + t) * 64 : Nat)) : Int) / 64 = ((1 + t : Nat) : Int) by omega]
  obtain ⟨b', l', a', m', he, r⟩ := good_l0 (c := c) z hz0 hz1 (1 + t) (by omega) (1 + t) 0 a1 m1 (List.replicate ((1 + t) * 64) 0) [] (by omega) h1 ⟨by simp; omega, by simp, by simp⟩
  refine ⟨b', l', a', m', ?_, r⟩
  simp only [spec_l1DrawGood.f]
  refine Ev.bindS e1 ?_
  simp only
  rw [hw]
  exact Ev.bindS hn (Ev.bindS hbk he)
theorem dd_l0 {c : List Int} {a m : Int} (h : StOk c a m) (z x5 : Int) (hx : x5 ≤ 2001) (d : Nat) : ∀ (b : List Int) (l : List S45), Bd 2001 b l → l.length + d = 2001 → ∃ b' l' a' m', Ev (fun k => spec_l1DrawDisk.l0 k x5 c a m z b l) (b', l', a', m', z) ∧ StOk c a' m' ∧ Bd 2001 b' l' := by
  induction d with
  | zero => intro b l hb hd; exact ⟨b, l, a, m, Ev.step (fun k => by simp only [spec_l1DrawDisk.l0]; exact if_neg (by omega)) (Ev.now _), h, hb⟩
  | succ d ih =>
    intro b l hb hd
    by_cases c1 : (l.length : Int) < x5
    · obtain ⟨b', l', a', m', he, r⟩ := ih b (l ++ [(⟨0, List.replicate 64 0⟩ : S45)]) ⟨hb.1, by simp; omega, fun x hx => by
        rcases List.mem_append.mp hx with h | h
        · exact hb.2.2 x h
        · simp only [List.mem_singleton] at h; subst h; simp⟩ (by simp; omega)
      exact ⟨b', l', a', m', Ev.step (fun k => by simp only [spec_l1DrawDisk.l0]; rw [if_pos c1, if_pos (by omega), if_pos (by omega)]) he, r⟩
    · exact ⟨b, l, a, m, Ev.step (fun k => by simp only [spec_l1DrawDisk.l0]; exact if_neg c1) (Ev.now _), h, hb⟩
theorem dd_j4 {c : List Int} {a m : Int} (h : StOk c a m) (z x4 : Int) (b : List Int) (l : List S45) (hb : Bd 2001 b l) : ∃ b' l' a' m', Ev (fun k => spec_l1DrawDisk.j4 k x4 c a m z b l) (b', l', a', m', z) ∧ StOk c a' m' ∧ Bd 2001 b' l' := by
  by_cases c1 : x4 = 5
  · obtain ⟨r1, a1, m1, e1, h1, q1, q2⟩ := next_e h z 3 (by omega)
    have hw : wrap64 (1999 + r1) = 1999 + r1 := w64 (by omega) (by omega)
    obtain ⟨b', l', a', m', he, r⟩ := dd_l0 h1 z (1999 + r1) (by omega) (2001 - l.length) b l hb (by have := hb.2.1; omega)
    exact ⟨b', l', a', m', Ev.step (fun k => by simp only [spec_l1DrawDisk.j4]; rw [if_pos c1, e1]; simp only [Option.bind_some]; rw [hw]) he, r⟩
  · exact ⟨b, l, a, m, Ev.step (fun k => by simp only [spec_l1DrawDisk.j4]; rw [if_neg c1]) (Ev.now _), h, hb⟩
theorem bd_snoc {b : List Int} {l : List S45} (hb : Bd 2001 b l) (hl : l.length ≤ 2000) (x : S45) (hx : x.f1.length ≤ 100) : Bd 2001 b (l ++ [x]) := ⟨hb.1, by simp; omega, fun y hy => by
  rcases List.mem_append.mp hy with h | h
  · exact hb.2.2 y h
  · simp only [List.mem_singleton] at h; subst h; exact hx⟩
theorem dd_j3 {c : List Int} {a m : Int} (h : StOk c a m) (z x4 : Int) (b : List Int) (l : List S45) (hb : Bd 2001 b l) (hl : l.length ≤ 2000 ∨ x4 ≠ 4) : ∃ b' l' a' m', Ev (fun k => spec_l1DrawDisk.j3 k x4 c a m z b l) (b', l', a', m', z) ∧ StOk c a' m' ∧ Bd 2001 b' l' := by
  by_cases c1 : x4 = 4
  · have hl2 : l.length ≤ 2000 := by omega
    obtain ⟨b', l', a', m', he, r⟩ := dd_j4 h z x4 b (l ++ [(⟨-1, List.replicate 64 0⟩ : S45)]) (bd_snoc hb hl2 _ (by simp))
    exact ⟨b', l', a', m', Ev.step (fun k => by simp only [spec_l1DrawDisk.j3]; rw [if_pos c1, if_pos (by omega), if_pos (by omega)]) he, r⟩
  · obtain ⟨b', l', a', m', he, r⟩ := dd_j4 h z x4 b l hb
    exact ⟨b', l', a', m', Ev.step (fun k => by simp only [spec_l1DrawDisk.j3]; rw [if_neg c1]) he, r⟩
theorem dd_j2 {c : List Int} {a m : Int} (h : StOk c a m) (z x4 : Int) (b : List Int) (l : List S45) (hb : Bd 2001 b l) (hl : l.length ≤ 2000) : ∃ b' l' a' m', Ev (fun k => spec_l1DrawDisk.j2 k x4 c a m z b l) (b', l', a', m', z) ∧ StOk c a' m' ∧ Bd 2001 b' l' := by
  by_cases c1 : x4 = 3
  · obtain ⟨r1, a1, m1, e1, h1, _⟩ := next_e h z 2 (by omega)
    obtain ⟨r2, a2, m2, e2, h2, q1, q2⟩ := next_e h1 z 3 (by omega)
    have hw : wrap64 (63 + r2) = 63 + r2 := w64 (by omega) (by omega)
    obtain ⟨b', l', a', m', he, r⟩ := dd_j3 h2 z x4 b (l ++ [(⟨wrap64 (r1 * 9), List.replicate (63 + r2).toNat 0⟩ : S45)]) (bd_snoc hb hl _ (by simp; omega)) (.inr (by omega))
    exact ⟨b', l', a', m', Ev.step (fun k => by simp only [spec_l1DrawDisk.j2]; rw [if_pos c1, e1]; simp only [Option.bind_some]; rw [e2]; simp only [Option.bind_some]; rw [hw, if_pos (by omega), if_pos (by omega), if_pos (by omega)]) he, r⟩
  · obtain ⟨b', l', a', m', he, r⟩ := dd_j3 h z x4 b l hb (.inl hl)
    exact ⟨b', l', a', m', Ev.step (fun k => by simp only [spec_l1DrawDisk.j2]; rw [if_neg c1]) he, r⟩
theorem dd_j1 {c : List Int} {a m : Int} (h : StOk c a m) (z x4 : Int) (b : List Int) (l : List S45) (hb : Bd 2001 b l) (hl : l.length ≤ 2000) : ∃ b' l' a' m', Ev (fun k => spec_l1DrawDisk.j1 k x4 c a m z b l) (b', l', a', m', z) ∧ StOk c a' m' ∧ Bd 2001 b' l' := by
  by_cases c1 : x4 = 2
  · obtain ⟨r1, a1, m1, e1, h1, q1, q2⟩ := next_e h z 2 (by omega)
    have hw : wrap64 ((wrap64 (300 + r1)) * 64) = (300 + r1) * 64 := by rw [w64 (x := 300 + r1) (by omega) (by omega), w64 (by omega) (by omega)]
    obtain ⟨b', l', a', m', he, r⟩ := dd_j2 h1 z x4 (List.replicate ((300 + r1) * 64).toNat 0) l ⟨by simp; omega, hb.2.1, hb.2.2⟩ hl
    exact ⟨b', l', a', m', Ev.step (fun k => by simp only [spec_l1DrawDisk.j1]; rw [if_pos c1, e1]; simp only [Option.bind_some]; rw [hw, if_pos (by omega), if_pos (by omega)]) he, r⟩
  · obtain ⟨b', l', a', m', he, r⟩ := dd_j2 h z x4 b l hb hl
    exact ⟨b', l', a', m', Ev.step (fun k => by simp only [spec_l1DrawDisk.j1]; rw [if_neg c1]) he, r⟩
theorem dd_j0 {c : List Int} {a m : Int} (h : StOk c a m) (z x4 : Int) (b : List Int) (l : List S45) (hb : Bd 2001 b l) (hl : l.length ≤ 2000) : ∃ b' l' a' m', Ev (fun k => spec_l1DrawDisk.j0 k x4 c a m z b l) (b', l', a', m', z) ∧ StOk c a' m' ∧ Bd 2001 b' l' := by
  by_cases c1 : x4 = 1
  · obtain ⟨b', l', a', m', he, r⟩ := dd_j1 h z x4 [] l ⟨by simp, hb.2.1, hb.2.2⟩ hl
    exact ⟨b', l', a', m', Ev.step (fun k => by simp only [spec_l1DrawDisk.j0]; rw [if_pos c1]) he, r⟩
  · obtain ⟨b', l', a', m', he, r⟩ := dd_j1 h z x4 b l hb hl
    exact ⟨b', l', a', m', Ev.step (fun k => by simp only [spec_l1DrawDisk.j0]; rw [if_neg c1]) he, r⟩
theorem disk_e {c : List Int} {a m : Int} (h : StOk c a m) (z : Int) (hz0 : 1 ≤ z) (hz1 : z ≤ 7) : ∃ b l a' m', Ev (fun k => spec_l1DrawDisk.f k c a m z) (b, l, a', m', z) ∧ StOk c a' m' ∧ Bd 2001 b l := by
  obtain ⟨b, l, a1, m1, e1, h1, hb⟩ := good_e h z hz0 hz1
  obtain ⟨r2, a2, m2, e2, h2, _⟩ := next_e h1 z 30 (by omega)
  have hb1 := hb.1
  simp only [spec_l1DrawDisk.f]
  by_cases c1 : r2 = 0
  · obtain ⟨b', l', a', m', he, r⟩ := dd_j0 h2 z r2 (b ++ [1]) l ⟨by simp; omega, by have := hb.2.1; omega, hb.2.2⟩ hb.2.1
    exact ⟨b', l', a', m', Ev.bind e1 (Ev.bindS e2 (Ev.pos c1 (Ev.pos (by simp only; omega) he))), r⟩
  · obtain ⟨b', l', a', m', he, r⟩ := dd_j0 h2 z r2 b l ⟨by omega, by have := hb.2.1; omega, hb.2.2⟩ hb.2.1
    exact ⟨b', l', a', m', Ev.bind e1 (Ev.bindS e2 (Ev.neg c1 he)), r⟩
/-- What DrawDiskWrite draws: a disk of bounded size, a block number, some bytes. -/
theorem drawWrite_e (l0 : List Int) (hl : okB l0) (hll : l0.length ≤ 1048576) : ∃ b l x d, Ev (fun k => spec_DrawDiskWrite.f k l0) (b, l, x, d) ∧ Bd 2001 b l ∧ -9223372036854775808 ≤ x ∧ x < 9223372036854775808 ∧ d.length ≤ 64 ∧ okB d := by
  obtain ⟨c, m, z, e1, h1, hz0, hz1⟩ := src_e l0 hl hll
  obtain ⟨b, l, a2, m2, e2, h2, hb⟩ := disk_e h1 z hz0 hz1
  have hb1 := hb.1
  have hbk : spec_l1Blocks.f b l = some ((b.length / 64 : Nat) : Int) := by
    simp only [spec_l1Blocks.f]
    rw [w64 (by omega) (by omega)]; rfl
  obtain ⟨r3, a3, m3, e3, h3, q1, q2⟩ := next_e h2 z ((b.length / 64 : Nat) : Int) (by omega)
  obtain ⟨v, a4, m4, e4, h4, hv, hov⟩ := fill_e h3 z
  obtain ⟨r5, a5, m5, e5, h5, _⟩ := next_e h4 z 16 (by omega)
  have hr3 : r3 < 9223372036854775808 := by
    by_cases hc : 1 ≤ ((b.length / 64 : Nat) : Int)
    · have := q2 hc; omega
    · have : spec_l1Next.f c a2 m2 z ((b.length / 64 : Nat) : Int) = some (0, a2, m2, z) := by unfold spec_l1Next.f; exact if_pos (by omega)
      rw [this] at e3
      injection e3 with e3
      injection e3 with e3 _
      omega
  have j0 : ∀ d : List Int, d.length ≤ 64 → okB d → ∃ x, Ev (fun k => spec_DrawDiskWrite.j0 k r3 d r5 b l) (b, l, x, d) ∧ -9223372036854775808 ≤ x ∧ x < 9223372036854775808 := by
    intro d _ _
    by_cases k1 : r5 = 1
    · refine ⟨_, Ev.step (fun k => by simp only [spec_DrawDiskWrite.j0]; rw [if_pos k1, hbk]; simp only [Option.bind_some]; rw [if_neg (by omega)]) (Ev.now _), by omega, by omega⟩
    · by_cases k2 : r5 = 2
      · exact ⟨-1, Ev.step (fun k => by simp only [spec_DrawDiskWrite.j0]; rw [if_neg k1, if_pos k2]) (Ev.now _), by omega, by omega⟩
      · exact ⟨r3, Ev.step (fun k => by simp only [spec_DrawDiskWrite.j0]; rw [if_neg k1, if_neg k2]) (Ev.now _), by omega, hr3⟩
  simp only [spec_DrawDiskWrite.f]
  by_cases k0 : r5 = 0
  · obtain ⟨x, ex, hx⟩ := j0 (v.drop (1 : Int).toNat) (by simp; omega) (okB_drop hov _)
    exact ⟨b, l, x, _, Ev.bind e1 (Ev.bind e2 (Ev.bindS hbk (Ev.bindS e3 (Ev.bind e4 (Ev.bindS e5 (Ev.pos k0 (Ev.pos (by simp only; omega) ex))))))), hb, hx.1, hx.2, by simp; omega, okB_drop hov _⟩
  · obtain ⟨x, ex, hx⟩ := j0 v (by omega) hov
    exact ⟨b, l, x, v, Ev.bind e1 (Ev.bind e2 (Ev.bindS hbk (Ev.bindS e3 (Ev.bind e4 (Ev.bindS e5 (Ev.neg k0 ex)))))), hb, hx.1, hx.2, by omega, hov⟩
def crashM (b : List Int) (l : List S45) (ch : List Int) : List Int × List S45 := if validD b l = true ∧ ch.length ≤ 2000 then (crashD b l ch l.length, []) else ([], [])
theorem implCrash_ev (b : List Int) (l : List S45) (ch : List Int) (hb : b.length ≤ 1048576) (hl : l.length ≤ 1048576) : Ev (fun k => impl_DiskCrash.f k b l ch) (crashM b l ch) := by
  simp only [impl_DiskCrash.f]
  refine Ev.bind (implValid_ev b l (by omega) (by omega)) ?_
  by_cases hv : validD b l = true
  · refine Ev.pos hv ?_
    by_cases hc : (ch.length : Int) > 2000
    · rw [show crashM b l ch = ([], []) from if_neg (by omega)]
      exact Ev.pos hc (Ev.now _)
    · rw [show crashM b l ch = (crashD b l ch l.length, []) from if_pos ⟨hv, by omega⟩]
      obtain ⟨v1, v2, v3, v4⟩ := valid_parts hv
      refine Ev.neg hc (Ev.ofE ?_)
      simp only [impl_DiskCrash.g]
      exact if_pos ⟨by omega, by omega, by omega, v3, v4⟩
  · rw [show crashM b l ch = ([], []) from if_neg (fun h => hv h.1)]
    exact Ev.neg hv (Ev.now _)
def lastW (a : Int) (cur : List Int) (l : List S45) : List Int := l.foldl (fun acc x => if x.f0 = a then x.f1 else acc) cur
theorem specRead_l (a : Int) (b : List Int) (l : List S45) (hl : l.length ≤ 1048576) (hx : ∀ x ∈ l, x.f1.length ≤ 1048576) (d : Nat) : ∀ (i : Nat) (cur : List Int), i + d = l.length → Ev (fun k => spec_DiskRead.l0 k a cur i b l) (lastW a cur (l.drop i)) := by
  induction d with
  | zero =>
    intro i cur hi
    refine Ev.step (fun k => by simp only [spec_DiskRead.l0]; exact if_neg (by omega)) ?_
    rw [List.drop_of_length_le (by omega)]; exact Ev.now _
  | succ d ih =>
    intro i cur hi
    have e : rd_T45 l i = l[i] := by simp [rd_T45, show i < l.length by omega]
    refine Ev.step (fun k => by simp only [spec_DiskRead.l0]; rw [if_pos (by omega), if_pos (by omega), e, w64 (by omega) (by omega)]) ?_
    rw [List.drop_eq_getElem_cons (by omega)]
    by_cases h1 : l[i].f0 = a
    · have : lastW a cur (l[i] :: l.drop (i + 1)) = lastW a l[i].f1 (l.drop (i + 1)) := by unfold lastW; rw [List.foldl_cons, if_pos h1]
      rw [this]
      exact Ev.pos h1 (Ev.bind (l1Copy_ev _ (by have := hx _ (List.getElem_mem (show i < l.length by omega)); omega)) (ih (i + 1) _ (by omega)))
    · have : lastW a cur (l[i] :: l.drop (i + 1)) = lastW a cur (l.drop (i + 1)) := by unfold lastW; rw [List.foldl_cons, if_neg h1]
      rw [this]
      exact Ev.neg h1 (ih (i + 1) _ (by omega))
def blkOf (b : List Int) (a : Nat) : List Int := (b.take (64 * a + 64)).drop (64 * a)
def readM (b : List Int) (l : List S45) (a : Int) : List Int := if validD b l = true ∧ 0 ≤ a ∧ a < (b.length / 64 : Nat) then lastW a (blkOf b a.toNat) l else []
theorem aget_aset (m : List (Int × List Int)) (b a : Int) (d : List Int) : YtejecjjimggjeaaH.aget (YtejecjjimggjeaaH.aset m b d) a = if b = a then some d else YtejecjjimggjeaaH.aget m a := by
  induction m with
  | nil => simp only [YtejecjjimggjeaaH.aset, YtejecjjimggjeaaH.aget]
  | cons q m ih =>
    obtain ⟨k, v⟩ := q
    simp only [YtejecjjimggjeaaH.aset]
    by_cases c : k = b
    · subst c
      rw [if_pos rfl]; simp only [YtejecjjimggjeaaH.aget]
      by_cases c2 : k = a <;> simp [c2]
    · rw [if_neg c]; simp only [YtejecjjimggjeaaH.aget, ih]
      by_cases c2 : k = a
      · subst c2; simp [Ne.symm c]
      · simp [c2]
theorem aget_fold (a : Int) (l : List S45) : ∀ m : List (Int × List Int), YtejecjjimggjeaaH.aget (l.foldl (fun m p => YtejecjjimggjeaaH.aset m p.f0 p.f1) m) a = l.foldl (fun acc x => if x.f0 = a then some x.f1 else acc) (YtejecjjimggjeaaH.aget m a) := by
  induction l with
  | nil => intro m; rfl
  | cons x l ih => intro m; simp only [List.foldl_cons]; rw [ih, aget_aset]
theorem readP_last (b : List Int) (l : List S45) (a : Nat) : readP b (yng l) a = lastW a (blkOf b a) l := by
  unfold readP yng
  rw [aget_fold]
  have : ∀ (l : List S45) (o : Option (List Int)), (match l.foldl (fun acc x => if x.f0 = (a : Int) then some x.f1 else acc) o with | some v => v | none => blkOf b a) = lastW a (match o with | some v => v | none => blkOf b a) l := by
    intro l
    induction l with
    | nil => intro o; rfl
    | cons x l ih =>
      intro o
      simp only [List.foldl_cons, lastW]
      rw [ih]
      by_cases c : x.f0 = (a : Int)
      · simp [c, lastW]
      · simp [c, lastW]
  exact this l none
theorem specRead_ev (b : List Int) (l : List S45) (a : Int) (hb : b.length ≤ 1048576) (hl : l.length ≤ 1048576) (hx : ∀ x ∈ l, x.f1.length ≤ 1048576) (ha : -9223372036854775808 ≤ a) (ha2 : a < 9223372036854775808) : Ev (fun k => spec_DiskRead.f k b l a) (readM b l a) := by
  have hd : ((b.length : Int) / 64) = ((b.length / 64 : Nat) : Int) := by omega
  simp only [spec_DiskRead.f]
  refine Ev.bind (specValid_ev b l (by omega) (by omega)) ?_
  by_cases hv : validD b l = true
  · refine Ev.pos hv ?_
    by_cases h0 : a < 0
    · rw [show readM b l a = [] from if_neg (by omega)]
      exact Ev.pos h0 (Ev.step (fun k => by simp only [spec_DiskRead.j0]; exact if_pos trivial) (Ev.now _))
    · refine Ev.neg h0 ?_
      refine Ev.bindS (a := ((b.length / 64 : Nat) : Int)) (by simp only [spec_l1Blocks.f]; rw [hd, w64 (by omega) (by omega)]) ?_
      by_cases h1 : a ≥ ((b.length / 64 : Nat) : Int)
      · rw [show readM b l a = [] from if_neg (by omega)]
        exact Ev.step (fun k => by simp only [spec_DiskRead.j0]; exact if_pos (decide_eq_true h1)) (Ev.now _)
      · obtain ⟨n, rfl⟩ : ∃ n : Nat, a = (n : Int) := ⟨a.toNat, by omega⟩
        rw [show readM b l (n : Int) = lastW n (blkOf b n) l from if_pos ⟨hv, by omega, by omega⟩]
        have e1 : wrap64 ((n : Int) * 64) = ((64 * n : Nat) : Int) := by rw [w64 (by omega) (by omega)]; omega
        have e2 : wrap64 (wrap64 ((n : Int) + 1) * 64) = ((64 * n + 64 : Nat) : Int) := by rw [w64 (x := (n : Int) + 1) (by omega) (by omega), w64 (by omega) (by omega)]; omega
        refine Ev.step (fun k => by simp only [spec_DiskRead.j0]; rw [if_neg (by simp; omega), e1, e2, if_pos (by omega), if_pos (by omega), if_pos (by omega), Int.toNat_natCast, Int.toNat_natCast]) ?_
        refine Ev.bind (l1Copy_ev (blkOf b n) (by simp [blkOf]; omega)) ?_
        exact specRead_l n b l hl hx l.length 0 _ (by omega)
  · rw [show readM b l a = [] from if_neg (fun h => hv h.1)]
    exact Ev.neg hv (Ev.step (fun k => by simp only [spec_DiskRead.j0]; exact if_pos trivial) (Ev.now _))
theorem implRead_ev (b : List Int) (l : List S45) (a : Int) (hb : b.length ≤ 1048576) (hl : l.length ≤ 1048576) : Ev (fun k => impl_DiskRead.f k b l a) (readM b l a) := by
  have hd : ((b.length : Int) / 64) = ((b.length / 64 : Nat) : Int) := by omega
  simp only [impl_DiskRead.f]
  refine Ev.bind (implValid_ev b l (by omega) (by omega)) ?_
  by_cases hv : validD b l = true
  · refine Ev.pos hv ?_
    by_cases h0 : a < 0
    · rw [show readM b l a = [] from if_neg (by omega)]
      exact Ev.pos h0 (Ev.now _)
    · refine Ev.neg h0 ?_
      refine Ev.bindS (a := ((b.length / 64 : Nat) : Int)) (by simp only [impl_Disk_blocks.f]; rw [hd, w64 (by omega) (by omega)]) ?_
      by_cases h1 : a ≥ ((b.length / 64 : Nat) : Int)
      · rw [show readM b l a = [] from if_neg (by omega)]
        exact Ev.pos h1 (Ev.now _)
      · obtain ⟨n, rfl⟩ : ∃ n : Nat, a = (n : Int) := ⟨a.toNat, by omega⟩
        rw [show readM b l (n : Int) = lastW n (blkOf b n) l from if_pos ⟨hv, by omega, by omega⟩]
        refine Ev.neg h1 (Ev.ofE ?_)
        simp only [impl_DiskRead.g, Int.toNat_natCast]
        have hv' := hv
        simp only [validD, Bool.and_eq_true] at hv
        have h2k : l.length ≤ 2000 := of_decide_eq_true hv.1.2
        rw [if_pos ⟨by omega, by omega, by omega, okW_64 hv.2⟩, readP_last]
  · rw [show readM b l a = [] from if_neg (fun h => hv h.1)]
    exact Ev.neg hv (Ev.now _)
theorem lwAt_e (l : List Int) (hl : okB l) (hll : l.length ≤ 1048576) (i n : Int) (h0 : 0 ≤ i) (h1 : i ≤ 1000000) (n1 : 1 < n) (n2 : n ≤ 1000000) : ∃ r, laws_lwAt.f l i n = some r ∧ 0 ≤ r ∧ r < n := by
  unfold laws_lwAt.f
  rw [if_neg (by omega)]
  by_cases c : (l.length : Int) = 0
  · rw [if_pos c, if_neg (by omega), w64 (by omega) (by omega), Int.tmod_eq_emod_of_nonneg (by omega)]
    exact ⟨_, rfl, Int.emod_nonneg _ (by omega), Int.emod_lt_of_pos _ (by omega)⟩
  · have e1 : Int.tmod i (l.length : Int) = i % (l.length : Int) := Int.tmod_eq_emod_of_nonneg h0
    have h2 := Int.emod_nonneg i (show (l.length : Int) ≠ 0 by omega)
    have h3 := Int.emod_lt_of_pos i (show 0 < (l.length : Int) by omega)
    have e2 : Int.tdiv i (l.length : Int) = i / (l.length : Int) := Int.tdiv_eq_ediv_of_nonneg h0
    have h4 : 0 ≤ i / (l.length : Int) := Int.ediv_nonneg h0 (by omega)
    have h5 : i / (l.length : Int) ≤ i := Int.ediv_le_self _ h0
    have hb : 0 ≤ rd l (i % (l.length : Int)) ∧ rd l (i % (l.length : Int)) ≤ 255 := by
      have hi : (i % (l.length : Int)).toNat < l.length := by omega
      have e : rd l (i % (l.length : Int)) = l[(i % (l.length : Int)).toNat] := by simp [rd, hi]
      rw [e]; exact hl _ (List.getElem_mem hi)
    rw [if_neg c, e1, e2, if_pos h2, if_pos h3, if_neg (by omega), w64 (x := rd l (i % (l.length : Int))) (by omega) (by omega), w64 (x := i / (l.length : Int)) (by omega) (by omega), w64 (by omega) (by omega), Int.tmod_eq_emod_of_nonneg (by omega)]
    exact ⟨_, rfl, Int.emod_nonneg _ (by omega), Int.emod_lt_of_pos _ (by omega)⟩
theorem lwChoices_l (l : List Int) (hl : okB l) (hll : l.length ≤ 1048576) (i : Int) (h0 : 0 ≤ i) (h1 : i ≤ 1000) (d : Nat) : ∀ (j : Nat) (x : List Int), j + d = 6 → x.length = j → ∃ r, Ev (fun k => laws_lwChoices.l0 k l i x j) r ∧ r.length = 6 := by
  induction d with
  | zero => intro j x hj hx; exact ⟨x, Ev.step (fun k => by simp only [laws_lwChoices.l0]; exact if_neg (by omega)) (Ev.now _), by omega⟩
  | succ d ih =>
    intro j x hj hx
    obtain ⟨t, e, q1, q2⟩ := lwAt_e l hl hll (i + j) 70 (by omega) (by omega) (by omega) (by omega)
    obtain ⟨r, er, hr⟩ := ih (j + 1) (x ++ [t - 2]) (by omega) (by simp; omega)
    refine ⟨r, Ev.step (fun k => ?_) er, hr⟩
    simp only [laws_lwChoices.l0]
    rw [if_pos (by omega), w64 (x := i + (j : Int)) (by omega) (by omega), e, Option.bind_some, if_pos (by omega), w64 (x := t - 2) (by omega) (by omega), w64 (x := (j : Int) + 1) (by omega) (by omega)]
    rfl
theorem lwChoices_e (l : List Int) (hl : okB l) (hll : l.length ≤ 1048576) (i : Int) (h0 : 0 ≤ i) (h1 : i ≤ 1000) : ∃ r, Ev (fun k => laws_lwChoices.f k l i) r ∧ r.length = 6 := lwChoices_l l hl hll i h0 h1 6 0 [] (by omega) rfl
theorem zz (D : List Int) (n : Nat) (d : List Int) (hn : 64 * n + 64 ≤ D.length) (hd : d.length = 64) : blkOf (put1 D n d 64) n = d := by
  apply List.ext_getElem?
  intro i
  unfold blkOf
  rw [List.getElem?_drop, List.getElem?_take]
  by_cases h : i < 64
  · rw [if_pos (by omega), put1_get D n d hn hd, if_pos (by omega), show 64 * n + i - 64 * n = i by omega]
  · rw [if_neg (by omega), List.getElem?_eq_none (by omega)]
theorem zE (D : List Int) (n c a : Nat) (d : List Int) (hn : 64 * n + 64 ≤ D.length) (hd : d.length = 64) (hc : c ≤ 64) (hne : n ≠ a) : blkOf (put1 D n d c) a = blkOf D a := by
  have hl : (D.take (64 * n) ++ d.take c).length = 64 * n + c := by simp only [List.length_append, List.length_take]; omega
  have l1 : (D.take (64 * n)).length = 64 * n := by simp; omega
  apply List.ext_getElem?
  intro i
  unfold blkOf
  rw [List.getElem?_drop, List.getElem?_take, List.getElem?_drop, List.getElem?_take]
  by_cases h : 64 * a + i < 64 * a + 64
  · rw [if_pos h, if_pos h]
    unfold put1
    by_cases h2 : a < n
    · rw [List.getElem?_append_left (by omega), List.getElem?_append_left (by omega), List.getElem?_take, if_pos (by omega)]
    · rw [List.getElem?_append_right (by omega), hl, List.getElem?_drop]
      congr 1; omega
  · rw [if_neg h, if_neg h]
theorem crash_far (b : List Int) (l : List S45) (ch : List Int) (a : Nat) (h64 : ∀ i : Nat, i < l.length → (rd_T45 l (i : Int)).f1.length = 64) (hbd : ∀ i : Nat, i < l.length → 0 ≤ (rd_T45 l (i : Int)).f0 ∧ 64 * (rd_T45 l (i : Int)).f0 + 64 ≤ b.length) (hne : ∀ i : Nat, i < l.length → (rd_T45 l (i : Int)).f0 ≠ (a : Int)) : ∀ i, i ≤ l.length → blkOf (crashD b l ch i) a = blkOf b a := by
  intro i
  induction i with
  | zero => intro _; rfl
  | succ i ih =>
    intro hi
    have h1 := crashD_len (ch := ch) h64 hbd i (by omega)
    have h2 := hbd i (by omega)
    have h3 := chI_le ch i
    have h4 := hne i (by omega)
    simp only [crashD]
    rw [zE _ _ _ _ _ (by omega) (h64 i (by omega)) (by omega) (by omega)]
    exact ih (by omega)
theorem lastW_none (a : Int) (cur : List Int) (l : List S45) (h : ∀ x ∈ l, x.f0 ≠ a) : lastW a cur l = cur := by
  unfold lastW
  induction l generalizing cur with
  | nil => rfl
  | cons x l ih => rw [List.foldl_cons, if_neg (h x (by simp))]; exact ih cur (fun y hy => h y (by simp [hy]))
theorem lastW_snoc (a : Int) (cur : List Int) (l : List S45) (d : List Int) : lastW a cur (l ++ [⟨a, d⟩]) = d := by simp [lastW]
theorem rd_mem (l : List S45) (i : Nat) (hi : i < l.length) : rd_T45 l (i : Int) ∈ l := by
  have e : rd_T45 l i = l[i] := by simp [rd_T45, hi]
  rw [e]; exact List.getElem_mem hi
/-- Whether a block has nothing pending. -/
theorem calm_l (a n other : Int) (b : List Int) (l : List S45) (hl : l.length ≤ 1048576) (x y : List Int × List S45) {r : Bool} (fin : ∀ calm : Bool, (calm = true → other ≠ a ∧ ∀ w ∈ l, w.f0 ≠ other) → Ev (fun k => laws_FnSync.l1 k a n other calm l.length b l y.1 y.2) r) (d : Nat) : ∀ (i : Nat) (calm : Bool), i + d = l.length → (calm = true → other ≠ a ∧ ∀ j : Nat, j < i → (rd_T45 l (j : Int)).f0 ≠ other) → Ev (fun k => laws_FnSync.l1 k a n other calm i b l y.1 y.2) r := by
  induction d with
  | zero =>
    intro i calm hi hc
    obtain rfl : i = l.length := by omega
    refine fin calm (fun h => ⟨(hc h).1, fun w hw => ?_⟩)
    obtain ⟨j, hj, rfl⟩ := List.getElem_of_mem hw
    have := (hc h).2 j hj
    have e : rd_T45 l j = l[j] := by simp [rd_T45, hj]
    rw [e] at this; exact this
  | succ d ih =>
    intro i calm hi hc
    have hw : wrap64 ((i : Int) + 1) = ((i + 1 : Nat) : Int) := by rw [w64 (by omega) (by omega)]; rfl
    by_cases c1 : (rd_T45 l (i : Int)).f0 = other
    · exact Ev.step (fun k => by simp only [laws_FnSync.l1]; rw [if_pos (by omega), if_pos (by omega), if_pos c1, hw]) (ih (i + 1) false (by omega) (fun h => by cases h))
    · refine Ev.step (fun k => by simp only [laws_FnSync.l1]; rw [if_pos (by omega), if_pos (by omega), if_neg c1, hw]) (ih (i + 1) calm (by omega) (fun h => ⟨(hc h).1, fun j hj => ?_⟩))
      by_cases hji : j = i
      · subst hji; exact c1
      · exact (hc h).2 j (by omega)
theorem sync_loop (a : Int) (b : List Int) (l : List S45) (xb : List Int) (n : Nat) (hn : n = b.length / 64) (hb : Bd 2001 b l) (hv : validD b l = true) (hxl : xb.length = b.length) (hxv : validD xb [] = true) (hfar : ∀ other : Nat, other < n → (other : Int) ≠ a → (∀ w ∈ l, w.f0 ≠ (other : Int)) → blkOf xb other = blkOf b other) (d : Nat) : ∀ (other : Nat), other + d = n → Ev (fun k => laws_FnSync.l0 k a n other b l xb []) true := by
  have hb1 := hb.1
  induction d with
  | zero =>
    intro other ho
    refine Ev.step (fun k => by simp only [laws_FnSync.l0]; rw [if_neg (by omega), if_pos (by rfl)]) ?_
    rw [show ((xb.length : Int) == (b.length : Int)) = true by rw [hxl]; simp]
    exact Ev.now _
  | succ d ih =>
    intro other ho
    have hnext := ih (other + 1) (by omega)
    have hw : wrap64 ((other : Int) + 1) = ((other + 1 : Nat) : Int) := by rw [w64 (by omega) (by omega)]; rfl
    refine Ev.step (f := fun k => laws_FnSync.l1 k a n other ((other : Int) != a) 0 b l xb []) (fun k => by simp only [laws_FnSync.l0]; exact if_pos (by omega)) ?_
    refine calm_l a n other b l (by have := hb.2.1; omega) ([], []) (xb, []) (fun calm hc => ?_) l.length 0 _ (by omega) (fun h => ⟨by simpa using h, fun j hj => by omega⟩)
    by_cases hcalm : calm = true
    · obtain ⟨c1, c2⟩ := hc hcalm
      have e1 : readM xb [] other = blkOf xb other := by
        unfold readM
        rw [if_pos ⟨hxv, by omega, by rw [hxl]; omega⟩, Int.toNat_natCast]
        rfl
      have e2 : readM b l other = blkOf b other := by
        unfold readM
        rw [if_pos ⟨hv, by omega, by omega⟩, Int.toNat_natCast]
        exact lastW_none _ _ _ c2
      have r1 := implRead_ev xb [] (other : Int) (by omega) (by simp)
      have r2 := specRead_ev b l (other : Int) (by omega) (by have := hb.2.1; omega) (fun x hx => by have := hb.2.2 x hx; omega) (by omega) (by omega)
      rw [e1, hfar other (by omega) c1 c2] at r1
      rw [e2] at r2
      refine Ev.step (f := fun k => (impl_DiskRead.f k xb [] other).bind fun t447 => (spec_DiskRead.f k b l other).bind fun t450 => if (strOfNums t447).toList = (strOfNums t450).toList then laws_FnSync.l0 k a n (other + 1 : Nat) b l xb [] else none) (fun k => by simp only [laws_FnSync.l1]; rw [if_neg (by omega), if_pos hcalm, hw]) ?_
      exact Ev.bind r1 (Ev.bind r2 (Ev.pos rfl hnext))
    · exact Ev.step (fun k => by simp only [laws_FnSync.l1]; rw [if_neg (by omega), if_neg hcalm, hw]) hnext
theorem FnSync : laws_FnSync.Pure := by
  intro l0 l1 _ _ h2 _ _ h4
  apply Ev.rounds
  have ok0 : okB l0 := fun x hx => u8_wf (h2 x hx)
  have ok1 : okB l1 := fun x hx => u8_wf (h4 x hx)
  simp only [laws_FnSync.f]
  by_cases hl : (l0.length : Int) > 1048576
  · exact Ev.pos hl (Ev.step (f := fun _ => some true) (fun k => by simp only [laws_FnSync.j0]; exact if_pos trivial) (Ev.now _))
  refine Ev.neg hl ?_
  by_cases hl1 : (l1.length : Int) > 1048576
  · exact Ev.step (f := fun _ => some true) (fun k => by simp only [laws_FnSync.j0]; exact if_pos (decide_eq_true hl1)) (Ev.now _)
  obtain ⟨b, l, a, d, ed, hb, ha0, ha1, hd, hod⟩ := drawWrite_e l0 ok0 (by omega)
  have hb1 := hb.1
  have hb2 := hb.2.1
  have hokd : okByt d = true := List.all_eq_true.mpr (fun x hx => decide_eq_true (hod x hx))
  have iw : Ev (fun k => disk_conv.f k b l a d) (writeM b l a d) := by
    simp only [disk_conv.f]
    exact Ev.pos hokd (implWrite_ev b l a d (by omega) (by omega))
  have sw : Ev (fun k => spec_DiskWrite.f k b l a d) (writeM b l a d) := specWrite_ev b l a d (by omega) (by omega) (fun x hx => by have := hb.2.2 x hx; omega) (by omega)
  refine Ev.step (f := fun k => _) (fun k => by simp only [laws_FnSync.j0]; exact if_neg (by rw [decide_eq_false hl1]; decide)) (Ev.bind ed (Ev.bind iw (Ev.bind ed (Ev.bind sw ?_))))
  by_cases hc : validD b l = true ∧ l.length ≠ 2000 ∧ 0 ≤ a ∧ a < (b.length / 64 : Nat) ∧ d.length = 64
  · obtain ⟨hv, hl2, h0, h1, hd64⟩ := hc
    obtain ⟨n, rfl⟩ := Int.eq_ofNat_of_zero_le h0
    obtain ⟨v1, v2, v3, v4⟩ := valid_parts hv
    rw [show writeM b l (n : Int) d = (b, l ++ [⟨n, d⟩]) from if_pos ⟨hv, hl2, h0, h1, hd64⟩]
    simp only
    have hv' : validD b (l ++ [⟨(n : Int), d⟩]) = true := by
      simp only [validD, Bool.and_eq_true, decide_eq_true_eq] at hv ⊢
      obtain ⟨⟨⟨⟨g1, g2⟩, g3⟩, g4⟩, g5⟩ := hv
      refine ⟨⟨⟨⟨g1, g2⟩, g3⟩, by simp; omega⟩, ?_⟩
      rw [List.all_append, g5]
      simp only [List.all_cons, List.all_nil, Bool.and_true, Bool.true_and, okW, Bool.and_eq_true, Bool.not_eq_true', decide_eq_false_iff_not, decide_eq_true_eq]
      omega
    obtain ⟨w1, w2, w3, w4⟩ := valid_parts hv'
    have hLl : (l ++ [(⟨(n : Int), d⟩ : S45)]).length = l.length + 1 := by simp
    have hlast : rd_T45 (l ++ [(⟨(n : Int), d⟩ : S45)]) (l.length : Int) = ⟨n, d⟩ := by simp [rd_T45]
    have hread : ∀ cur, lastW (n : Int) cur (l ++ [(⟨(n : Int), d⟩ : S45)]) = d := fun cur => lastW_snoc _ _ _ _
    have hmem : ∀ x ∈ l ++ [(⟨(n : Int), d⟩ : S45)], x ∈ l ∨ x = ⟨n, d⟩ := fun x hx => by
      rcases List.mem_append.mp hx with h | h
      · exact .inl h
      · exact .inr (List.mem_singleton.mp h)
    generalize l ++ [(⟨(n : Int), d⟩ : S45)] = L at *
    have p64 := pend_all w3
    have pbd := pend_bd w4
    have hch := ch64 L.length
    have hcr := sync_is b L (List.replicate L.length 64) hch w3 w4
    generalize List.replicate L.length (64 : Int) = cs at *
    have hsy : syncM b L = (syncD b (yl (yng L)), []) := if_pos hv'
    have hlen := crashD_len (dur := b) (ch := cs) p64 pbd L.length (Nat.le_refl _)
    rw [hcr] at hsy
    -- what is synced holds the write
    have hblk : blkOf (crashD b L cs L.length) n = d := by
      have hlen1 := crashD_len (dur := b) (ch := cs) p64 pbd l.length (by omega)
      have hc1 := hch l.length (by omega)
      rw [hLl]
      simp only [crashD]
      rw [hlast, hc1]
      simp only [Int.toNat_natCast]
      exact zz _ _ _ (by rw [hlen1]; omega) hd64
    generalize crashD b L cs L.length = sb at *
    have valid0 : ∀ x : List Int, x.length = b.length → validD x [] = true := by
      intro x hx
      simp only [validD, Bool.and_eq_true, decide_eq_true_eq] at hv ⊢
      obtain ⟨⟨⟨⟨g1, g2⟩, g3⟩, g4⟩, g5⟩ := hv
      rw [hx]
      exact ⟨⟨⟨⟨g1, g2⟩, g3⟩, by simp⟩, rfl⟩
    obtain ⟨ch0, ec0, hc0⟩ := lwChoices_e l1 ok1 (by omega) 0 (by omega) (by omega)
    obtain ⟨ch3, ec3, hc3⟩ := lwChoices_e l1 ok1 (by omega) 3 (by omega) (by omega)
    have es := implSync_ev b L (by omega) (by omega)
    rw [hsy] at es
    have ey := implCrash_ev sb [] ch0 (by omega) (by simp)
    rw [show crashM sb [] ch0 = (sb, []) from if_pos ⟨valid0 sb hlen, by omega⟩] at ey
    have er := implRead_ev sb [] (n : Int) (by omega) (by simp)
    rw [show readM sb [] (n : Int) = d by
      unfold readM
      rw [if_pos ⟨valid0 sb hlen, by omega, by rw [hlen]; exact h1⟩, Int.toNat_natCast]
      exact hblk] at er
    have er2 := implRead_ev b L (n : Int) (by omega) (by omega)
    rw [show readM b L (n : Int) = d by
      unfold readM
      rw [if_pos ⟨hv', by omega, h1⟩]
      exact hread _] at er2
    have ex := implCrash_ev b L ch3 (by omega) (by omega)
    have hxlen := crashD_len (dur := b) (ch := ch3) p64 pbd L.length (Nat.le_refl _)
    rw [show crashM b L ch3 = (crashD b L ch3 L.length, []) from if_pos ⟨hv', by omega⟩] at ex
    have hne : ¬ ((b.length : Int) = 0) := by omega
    refine Ev.neg hne (Ev.bind es (Ev.bind ec0 (Ev.bind ey (Ev.bind er (Ev.pos rfl (Ev.bind er2 ?_))))))
    rw [show ((strOfNums d).toList != (strOfNums d).toList) = false by simp]
    refine Ev.step (f := fun k => _) (fun k => by simp only [laws_FnSync.j1]; exact if_neg (by decide)) (Ev.bind ec3 (Ev.bind ex ?_))
    simp only
    rw [w64 (x := (b.length : Int) / 64) (by omega) (by omega), show (b.length : Int) / 64 = ((b.length / 64 : Nat) : Int) by omega]
    refine sync_loop n b l _ (b.length / 64) rfl hb hv hxlen (valid0 _ hxlen) (fun other ho hoa hno => ?_) (b.length / 64) 0 (by omega)
    refine crash_far b L ch3 other p64 pbd (fun i hi => ?_) _ (Nat.le_refl _)
    rcases hmem _ (rd_mem L i hi) with hm | hm
    · exact hno _ hm
    · rw [hm]; exact Ne.symm hoa
  · rw [show writeM b l a d = ([], []) from if_neg hc]
    have er := implRead_ev [] [] a (by simp) (by simp)
    rw [show readM [] [] a = [] from if_neg (fun h => by have := h.1; simp [validD] at this)] at er
    refine Ev.pos rfl (Ev.pos rfl (Ev.pos rfl (Ev.bind er ?_)))
    exact Ev.ofE rfl

end Go.Proofs.Ytejecjjimggjeaa.Pure
