/- What is proved: the law FnTornLog returns true. Conditions: none. -/
import Derived.Test.YtejecjjimggjeaaGFnTornLogx3
import Derived.Lib.Bytes
namespace Go.Proofs.Ytejecjjimggjeaa.Pure
open Go.RowKit Go.Proofs.Ytejecjjimggjeaa.GFnTornLog Go.Proofs.YtejecjjimggjeaaW.PrintWords Go.Proofs.YtejecjjimggjeaaW.PrintLast Go.Proofs.YtejecjjimggjeaaW.PrintMore
set_option linter.unusedVariables false
set_option linter.unusedSimpArgs false

theorem w64 {x : Int} (h0 : -9223372036854775808 ≤ x) (h1 : x < 9223372036854775808) : wrap64 x = x := by unfold wrap64; omega
theorem u8_wf {x : Int} (h : (Lit.int .u8 x).wf = true) : 0 ≤ x ∧ x ≤ 255 := by
  simp [Lit.wf, IntKind.min, IntKind.max, IntKind.signed, IntKind.bits] at h
  omega
theorem Ev.pos {α : Type} {c : Prop} [Decidable c] {f g : Nat → Option α} {r : α} (hc : c) (h : Ev f r) : Ev (fun n => if c then f n else g n) r := Ev.congr (fun _ => if_pos hc) h
theorem Ev.neg {α : Type} {c : Prop} [Decidable c] {f g : Nat → Option α} {r : α} (hc : ¬c) (h : Ev g r) : Ev (fun n => if c then f n else g n) r := Ev.congr (fun _ => if_neg hc) h
def val (bs : List Nat) : Nat := bs.foldl (fun v b => 2 * v + b) 0
theorem val_go (bs : List Nat) : ∀ v, bs.foldl (fun v b => 2 * v + b) v = v * 2 ^ bs.length + val bs := by
  induction bs with
  | nil => intro v; simp [val]
  | cons b bs ih => intro v; simp only [List.foldl_cons, val, List.length_cons]; rw [ih, ih (2 * 0 + b)]; rw [Nat.pow_succ]; simp only [Nat.add_mul, Nat.mul_zero, Nat.zero_mul]; rw [Nat.mul_comm 2 v, Nat.mul_assoc, Nat.mul_comm 2]; omega
theorem val_append (xs ys : List Nat) : val (xs ++ ys) = val xs * 2 ^ ys.length + val ys := by
  simp only [val, List.foldl_append]; exact val_go ys _
theorem val_snoc (xs : List Nat) (b : Nat) : val (xs ++ [b]) = 2 * val xs + b := by simp [val]
def Bits (bs : List Nat) : Prop := ∀ b ∈ bs, b ≤ 1
theorem Bits.append {xs ys : List Nat} (h : Bits xs) (k : Bits ys) : Bits (xs ++ ys) := fun b hb => by
  rcases List.mem_append.1 hb with h1 | h1
  · exact h b h1
  · exact k b h1
theorem Bits.take {xs : List Nat} (h : Bits xs) (n : Nat) : Bits (xs.take n) := fun b hb => h b (List.mem_of_mem_take hb)
theorem Bits.drop {xs : List Nat} (h : Bits xs) (n : Nat) : Bits (xs.drop n) := fun b hb => h b (List.mem_of_mem_drop hb)
theorem val_cons (b : Nat) (bs : List Nat) : val (b :: bs) = b * 2 ^ bs.length + val bs := by
  have := val_append [b] bs
  simpa [val] using this
theorem val_lt {bs : List Nat} (h : Bits bs) : val bs < 2 ^ bs.length := by
  induction bs with
  | nil => simp [val]
  | cons b bs ih =>
    have h1 := ih (fun c hc => h c (List.mem_cons_of_mem _ hc))
    have h2 := h b List.mem_cons_self
    rw [val_cons, List.length_cons, Nat.pow_succ]
    have h3 := Nat.mul_le_mul_right (2 ^ bs.length) h2
    omega
theorem val_take (bs : List Nat) (h : Bits bs) (n : Nat) : val bs / 2 ^ (bs.length - n) = val (bs.take n) ∧ val bs % 2 ^ (bs.length - n) = val (bs.drop n) := by
  have h1 := val_append (bs.take n) (bs.drop n)
  rw [List.take_append_drop, List.length_drop] at h1
  have h2 := val_lt (h.drop n)
  rw [List.length_drop] at h2
  have hpos : 0 < 2 ^ (bs.length - n) := Nat.two_pow_pos _
  rw [h1]
  constructor
  · rw [Nat.mul_comm, Nat.mul_add_div hpos, Nat.div_eq_of_lt h2]; omega
  · rw [Nat.mul_comm, Nat.mul_add_mod, Nat.mod_eq_of_lt h2]

/-- The bits of a number, so many, the highest first. -/
def bitsN : Nat → Nat → List Nat
  | 0, _ => []
  | n + 1, x => bitsN n (x / 2) ++ [x % 2]
theorem bitsN_len (n : Nat) : ∀ x, (bitsN n x).length = n := by induction n with
  | zero => intro x; rfl
  | succ n ih => intro x; simp [bitsN, ih]
theorem bitsN_bits (n : Nat) : ∀ x, Bits (bitsN n x) := by induction n with
  | zero => intro x b hb; simp [bitsN] at hb
  | succ n ih => intro x; exact (ih _).append (fun b hb => by simp at hb; omega)
theorem bitsN_val (n : Nat) : ∀ x, val (bitsN n x) = x % 2 ^ n := by induction n with
  | zero => intro x; simp [bitsN, val, Nat.mod_one]
  | succ n ih => intro x; rw [bitsN, val_snoc, ih, Nat.pow_succ]; have := Nat.mod_mul_left_div_self x 2 (2^n); have h2 := Nat.div_add_mod (x % (2 ^ n * 2)) 2; rw [Nat.mul_comm (2^n) 2, Nat.mod_mul_right_div_self, Nat.mod_mul_right_mod] at h2; rw [Nat.mul_comm (2^n) 2]; omega

def bitsL (n : Nat) (l : List Int) : List Nat := l.flatMap fun b => bitsN n b.toNat
theorem bitsL_snoc (n : Nat) (l : List Int) (b : Int) : bitsL n (l ++ [b]) = bitsL n l ++ bitsN n b.toNat := by simp [bitsL]
/-- What bits in groups of w come to: the groups, and the bits that are left. -/
def Groups (w : Nat) (bs : List Nat) (s : Nat × Nat × List Int) : Prop :=
  ∃ (gs : List (List Nat)) (rem : List Nat), (∀ g ∈ gs, g.length = w ∧ Bits g) ∧ Bits rem ∧ bs = gs.flatten ++ rem ∧ s = (val rem, rem.length, gs.map fun g => ((val g : Nat) : Int))
theorem drain_groups (w : Nat) (hw : 0 < w) : ∀ (k : Nat) (bs : List Nat) (gs : List (List Nat)) (rem : List Nat), (∀ g ∈ gs, g.length = w ∧ Bits g) → Bits rem → bs = gs.flatten ++ rem → rem.length < w * (k + 1) →
    ∃ s, drainM w k (val rem) rem.length (gs.map fun g => ((val g : Nat) : Int)) = s ∧ Groups w bs s ∧ s.2.1 < w := by
  intro k
  induction k with
  | zero => intro bs gs rem hg hr hb hl; exact ⟨_, rfl, ⟨gs, rem, hg, hr, hb, rfl⟩, by show rem.length < w; simpa using hl⟩
  | succ k ih =>
    intro bs gs rem hg hr hb hl
    by_cases h : w ≤ rem.length
    · obtain ⟨h1, h2⟩ := val_take rem hr w
      have h3 := ih bs (gs ++ [rem.take w]) (rem.drop w) (by
        intro g hgm
        rcases List.mem_append.1 hgm with hm | hm
        · exact hg g hm
        · simp at hm; subst hm; exact ⟨by simp; omega, hr.take w⟩) (hr.drop w) (by rw [hb]; simp) (by rw [List.length_drop]; rw [Nat.mul_succ] at hl; omega)
      obtain ⟨s, hs, h4, h5⟩ := h3
      refine ⟨s, ?_, h4, h5⟩
      rw [drainM, if_pos h, h1, h2, ← hs, List.length_drop, List.map_append]; rfl
    · refine ⟨_, by rw [drainM, if_neg h], ⟨gs, rem, hg, hr, hb, rfl⟩, by show rem.length < w; omega⟩
theorem run_groups (frm w : Nat) (hw : 0 < w) (hf : w + frm ≤ 3 * w) (l : List Int) : Groups w (bitsL frm l) (runM frm w l) ∧ (runM frm w l).2.1 < w := by
  suffices H : ∀ (l : List Int) (pre : List Int) (s : Nat × Nat × List Int), Groups w (bitsL frm pre) s → s.2.1 < w → Groups w (bitsL frm (pre ++ l)) (l.foldl (feedM frm w) s) ∧ (l.foldl (feedM frm w) s).2.1 < w by
    have := H l [] (0, 0, []) ⟨[], [], by simp, fun _ h => by simp at h, by simp [bitsL], by simp [val]⟩ hw
    simpa [runM] using this
  intro l
  induction l with
  | nil => intro pre s h1 h2; simpa using ⟨h1, h2⟩
  | cons b l ih =>
    intro pre s ⟨gs, rem, hg, hr, hb, hs⟩ h2
    subst hs
    have e : pre ++ b :: l = (pre ++ [b]) ++ l := by simp
    rw [e, List.foldl_cons]
    obtain ⟨s2, hs2, h3, h4⟩ := drain_groups w hw 2 (bitsL frm (pre ++ [b])) gs (rem ++ bitsN frm b.toNat) hg (hr.append (bitsN_bits _ _)) (by rw [bitsL_snoc, hb]; simp) (by
      rw [List.length_append, bitsN_len]; simp only at h2; omega)
    have e2 : feedM frm w (val rem, rem.length, gs.map fun g => ((val g : Nat) : Int)) b = s2 := by
      rw [← hs2, feedM, val_append, bitsN_len, bitsN_val, List.length_append, bitsN_len]
    rw [e2]
    exact ih _ _ h3 h4

theorem val_zeros (n : Nat) : val (List.replicate n 0) = 0 := by
  induction n with
  | zero => rfl
  | succ n ih => rw [List.replicate_succ', val_snoc, ih]
theorem flat_len {gs : List (List Nat)} (w : Nat) (h : ∀ g ∈ gs, g.length = w) : gs.flatten.length = w * gs.length := by
  induction gs with
  | nil => simp
  | cons g gs ih => rw [List.flatten_cons, List.length_append, ih (fun g hg => h g (List.mem_cons_of_mem _ hg)), h g List.mem_cons_self, List.length_cons, Nat.mul_succ]; omega
theorem packM_len (l : List Int) : (packM l).length ≤ 2 * l.length + 1 := by
  have hd : ∀ (k p r : Nat) (o : List Int), (drainM 7 k p r o).2.2.length ≤ o.length + k := by
    intro k; induction k with
    | zero => intro p r o; simp [drainM]
    | succ k ih => intro p r o; rw [drainM]; split
                   · have := ih (p % 2 ^ (r - 7)) (r - 7) (o ++ [((p / 2 ^ (r - 7) : Nat) : Int)]); rw [List.length_append, List.length_singleton] at this; omega
                   · simp
  have hr : ∀ (l : List Int) (s : Nat × Nat × List Int), (l.foldl (feedM 8 7) s).2.2.length ≤ s.2.2.length + 2 * l.length := by
    intro l; induction l with
    | nil => intro s; simp
    | cons b l ih => intro s; rw [List.foldl_cons]; have h1 := ih (feedM 8 7 s b); have h2 := hd 2 (s.1 * 2 ^ 8 + b.toNat % 2 ^ 8) (s.2.1 + 8) s.2.2; simp only [feedM, List.length_cons] at *; omega
  have := hr l (0, 0, [])
  have h2 : (packM l).length = (finM 7 (runM 8 7 l)).length := by rw [packM, List.length_map]
  rw [h2]
  have h3 : (runM 8 7 l).2.2.length ≤ 2 * l.length := by simpa [runM] using this
  unfold finM
  by_cases h : 0 < (runM 8 7 l).2.1
  · rw [if_pos h, List.length_append, List.length_singleton]; omega
  · rw [if_neg h]; omega

theorem val_inj : ∀ (xs ys : List Nat), Bits xs → Bits ys → xs.length = ys.length → val xs = val ys → xs = ys := by
  intro xs
  induction xs with
  | nil => intro ys _ _ hl _; exact (List.length_eq_zero_iff.mp hl.symm).symm
  | cons x xs ih =>
    intro ys hx hy hl hv
    cases ys with
    | nil => simp at hl
    | cons y ys =>
      simp only [List.length_cons, Nat.add_right_cancel_iff] at hl
      have hxs : Bits xs := fun b hb => hx b (List.mem_cons_of_mem _ hb)
      have hys : Bits ys := fun b hb => hy b (List.mem_cons_of_mem _ hb)
      have h1 := val_lt hxs
      have h2 := val_lt hys
      have h3 := hx x List.mem_cons_self
      have h4 := hy y List.mem_cons_self
      rw [val_cons, val_cons, hl] at hv
      rw [hl] at h1
      have hxy : x = y := by
        rcases (by omega : x = 0 ∨ x = 1) with rfl | rfl <;> rcases (by omega : y = 0 ∨ y = 1) with rfl | rfl <;> first | rfl | omega
      subst hxy
      rw [ih ys hxs hys hl (by omega)]
theorem Bits.zeros (n : Nat) : Bits (List.replicate n 0) := fun b hb => by
  have := (List.mem_replicate.mp hb).2
  omega
theorem bitsN_eq (g : List Nat) (h : Bits g) (x : Nat) (hx : x % 2 ^ g.length = val g) : bitsN g.length x = g := by
  refine val_inj _ _ (bitsN_bits _ _) h (bitsN_len _ _) ?_
  rw [bitsN_val, hx]
theorem pack_shape (l : List Int) : ∃ (gs : List (List Nat)) (rem : List Nat), (∀ g ∈ gs, g.length = 7 ∧ Bits g) ∧ Bits rem ∧ rem.length < 7 ∧ bitsL 8 l = gs.flatten ++ rem ∧ packM l = gs.map (fun g => ((128 + val g : Nat) : Int)) ++ (if 0 < rem.length then [((128 + val rem * 2 ^ (7 - rem.length) : Nat) : Int)] else []) := by
  obtain ⟨⟨gs, rem, hg, hr, hbs, hs⟩, hlt⟩ := run_groups 8 7 (by decide) (by decide) l
  rw [hs] at hlt
  have hlt7 : rem.length < 7 := hlt
  refine ⟨gs, rem, hg, hr, hlt7, hbs, ?_⟩
  unfold packM
  rw [hs]
  have hm : (gs.map fun g => ((val g : Nat) : Int)).map (fun g => (128 + g) % 256) = gs.map (fun g => ((128 + val g : Nat) : Int)) := by
    rw [List.map_map]
    refine List.map_congr_left (fun g hgm => ?_)
    have h1 := val_lt (hg g hgm).2
    rw [(hg g hgm).1] at h1
    show (128 + ((val g : Nat) : Int)) % 256 = _
    omega
  unfold finM
  by_cases h0 : 0 < rem.length
  · rw [if_pos h0, if_pos h0, List.map_append, hm]
    have h1 := val_lt hr
    have h2 : val rem * 2 ^ (7 - rem.length) < 128 := by
      have : val rem * 2 ^ (7 - rem.length) < 2 ^ rem.length * 2 ^ (7 - rem.length) := Nat.mul_lt_mul_of_pos_right h1 (Nat.two_pow_pos _)
      rw [← Nat.pow_add, show rem.length + (7 - rem.length) = 7 by omega] at this
      exact this
    congr 1
    simp only [List.map_cons, List.map_nil]
    congr 1
    omega
  · rw [if_neg h0, if_neg h0, List.append_nil, hm]
theorem bits_pack (l : List Int) : ∃ pad, pad < 7 ∧ bitsL 7 (packM l) = bitsL 8 l ++ List.replicate pad 0 := by
  obtain ⟨gs, rem, hg, hr, hr7, hbs, hp⟩ := pack_shape l
  have hgs : ∀ gs : List (List Nat), (∀ g ∈ gs, g.length = 7 ∧ Bits g) → bitsL 7 (gs.map (fun g => ((128 + val g : Nat) : Int))) = gs.flatten := by
    intro gs
    induction gs with
    | nil => intro _; rfl
    | cons g gs ih =>
      intro h
      have h1 := h g (by simp)
      have h2 := val_lt h1.2
      have h3 := bitsN_eq g h1.2 (128 + val g) (by rw [h1.1] at h2 ⊢; omega)
      rw [h1.1] at h3
      simp only [bitsL, List.map_cons, List.flatMap_cons, List.flatten_cons, Int.toNat_natCast] at ih ⊢
      rw [h3, ih (fun x hx => h x (by simp [hx]))]
  by_cases h0 : 0 < rem.length
  · refine ⟨7 - rem.length, by omega, ?_⟩
    rw [hp, if_pos h0, hbs]
    have h1 := val_lt hr
    have h2 : val rem * 2 ^ (7 - rem.length) < 128 := by
      have : val rem * 2 ^ (7 - rem.length) < 2 ^ rem.length * 2 ^ (7 - rem.length) := Nat.mul_lt_mul_of_pos_right h1 (Nat.two_pow_pos _)
      rw [← Nat.pow_add, show rem.length + (7 - rem.length) = 7 by omega] at this
      exact this
    have hv : val (rem ++ List.replicate (7 - rem.length) 0) = val rem * 2 ^ (7 - rem.length) := by rw [val_append, val_zeros, List.length_replicate, Nat.add_zero]
    have hl : (rem ++ List.replicate (7 - rem.length) 0).length = 7 := by rw [List.length_append, List.length_replicate]; omega
    have h3 := bitsN_eq (rem ++ List.replicate (7 - rem.length) 0) (hr.append (Bits.zeros _)) (128 + val rem * 2 ^ (7 - rem.length)) (by rw [hl, hv]; omega)
    rw [hl] at h3
    have h4 : bitsL 7 (gs.map (fun g => ((128 + val g : Nat) : Int)) ++ [((128 + val rem * 2 ^ (7 - rem.length) : Nat) : Int)]) = bitsL 7 (gs.map (fun g => ((128 + val g : Nat) : Int))) ++ bitsN 7 (128 + val rem * 2 ^ (7 - rem.length)) := by
      rw [bitsL_snoc, Int.toNat_natCast]
    rw [h4, hgs gs hg, h3, List.append_assoc]
  · refine ⟨0, by omega, ?_⟩
    have hre : rem = [] := List.length_eq_zero_iff.mp (by omega)
    rw [hp, if_neg h0, hbs, hre, List.append_nil, List.append_nil, hgs gs hg]
    simp
theorem flat_uniq (w : Nat) : ∀ (gs gs' : List (List Nat)) (a b : List Nat), (∀ g ∈ gs, g.length = w) → (∀ g ∈ gs', g.length = w) → a.length < w → b.length < w → gs.flatten ++ a = gs'.flatten ++ b → gs = gs' := by
  intro gs
  induction gs with
  | nil =>
    intro gs' a b _ h2 ha hb h
    cases gs' with
    | nil => rfl
    | cons g' gs' =>
      have hl := congrArg List.length h
      have h3 := h2 g' (by simp)
      simp only [List.flatten_nil, List.nil_append, List.flatten_cons, List.length_append] at hl
      omega
  | cons g gs ih =>
    intro gs' a b h1 h2 ha hb h
    have hg := h1 g (by simp)
    cases gs' with
    | nil =>
      have hl := congrArg List.length h
      simp only [List.flatten_nil, List.nil_append, List.flatten_cons, List.length_append] at hl
      omega
    | cons g' gs' =>
      have hg' := h2 g' (by simp)
      simp only [List.flatten_cons, List.append_assoc] at h
      obtain ⟨h3, h4⟩ := List.append_inj h (by omega)
      rw [h3, ih gs' a b (fun x hx => h1 x (by simp [hx])) (fun x hx => h2 x (by simp [hx])) ha hb h4]
theorem run_pack (l : List Int) (hb : okBytes l = true) : (runM 7 8 (packM l)).2.2 = l := by
  obtain ⟨⟨gs, rem, hg, hr, hbs, hs⟩, hlt⟩ := run_groups 7 8 (by decide) (by decide) (packM l)
  rw [hs] at hlt ⊢
  have hlt8 : rem.length < 8 := hlt
  obtain ⟨pad, hp, hbp⟩ := bits_pack l
  have hf : bitsL 8 l = (l.map fun b => bitsN 8 b.toNat).flatten := by unfold bitsL; rw [List.flatMap_def]
  have hu := flat_uniq 8 gs (l.map fun b => bitsN 8 b.toNat) rem (List.replicate pad 0) (fun g h => (hg g h).1) (fun g h => by
    obtain ⟨b, _, rfl⟩ := List.mem_map.mp h
    exact bitsN_len _ _) hlt8 (by rw [List.length_replicate]; omega) (by rw [← hbs, hbp, hf])
  show gs.map (fun g => ((val g : Nat) : Int)) = l
  rw [hu, List.map_map]
  refine (List.map_congr_left (g := id) (fun b hbm => ?_)).trans (List.map_id _)
  have h1 := of_decide_eq_true (List.all_eq_true.mp hb b hbm)
  show ((val (bitsN 8 b.toNat) : Nat) : Int) = b
  rw [bitsN_val]
  omega
theorem unpack_pack (l : List Int) (hb : okBytes l = true) : unpackM (packM l) = l := by
  unfold unpackM
  rw [run_pack l hb, if_pos rfl]
theorem packM_ge (l : List Int) : ∀ x ∈ packM l, 128 ≤ x := by
  intro x hx
  obtain ⟨gs, rem, _, _, _, _, hp⟩ := pack_shape l
  rw [hp] at hx
  rcases List.mem_append.mp hx with h | h
  · obtain ⟨g, _, rfl⟩ := List.mem_map.mp h; omega
  · split at h
    · rw [List.mem_singleton] at h; subst h; omega
    · cases h
theorem unpack_zero (l : List Int) (h : ∃ x ∈ l, x < 128) : unpackM l = [] := by
  unfold unpackM
  rw [if_neg]
  intro he
  obtain ⟨x, hx, hl⟩ := h
  rw [← he] at hx
  have := packM_ge _ x hx
  omega
theorem packM_cnt (l : List Int) : (packM l).length = (8 * l.length + 6) / 7 := by
  obtain ⟨gs, rem, hg, hr, hr7, hbs, hp⟩ := pack_shape l
  have h1 : (bitsL 8 l).length = 8 * l.length := by
    have : ∀ l : List Int, (bitsL 8 l).length = 8 * l.length := by
      intro l
      induction l with
      | nil => rfl
      | cons b l ih => simp only [bitsL, List.flatMap_cons, List.length_append, bitsN_len, List.length_cons] at ih ⊢; omega
    exact this l
  have h2 := congrArg List.length hbs
  rw [h1, List.length_append, flat_len 7 (fun g h => (hg g h).1)] at h2
  rw [hp, List.length_append, List.length_map]
  by_cases h0 : 0 < rem.length
  · rw [if_pos h0, List.length_singleton]; omega
  · rw [if_neg h0, List.length_nil]; omega
def frameM (l : List Int) : List Int := if (l.length : Int) = 0 then [] else if (l.length : Int) > 2000 then [] else [(wrap64 (128 + (wrap64 (((packM l).length : Int) / 128)))) % 256, 128 + (((packM l).length : Int) % 128)] ++ packM l
theorem frame_impl (l : List Int) (hb : okBytes l = true) (hl : l.length ≤ 1099511627776) : impl_Frame.f l = some (frameM l) := by
  have hpl := packM_len l
  unfold impl_Frame.f frameM
  split
  · rfl
  · split
    · rfl
    · have e3 : impl_Pack.f l = some (packM l) := by unfold impl_Pack.f; rw [if_pos ⟨hb, hl⟩]
      simp only [e3, Option.bind_some]
      rw [if_pos (by simp; omega)]
theorem lwAt_t (l : List Int) (ok : okBytes l = true) (hl : l.length ≤ 1048576) (a n : Int) (ha : 0 ≤ a) (ha2 : a ≤ 1000) (hn : 2 ≤ n) (hn2 : n ≤ 1000) : ∃ r, laws_lwAt.f l a n = some r ∧ 0 ≤ r ∧ r < n := by
  unfold laws_lwAt.f
  rw [if_neg (by omega)]
  by_cases h0 : (l.length : Int) = 0
  · rw [if_pos h0, if_neg (by omega), w64 (by omega) (by omega)]
    exact ⟨_, rfl, Int.tmod_nonneg _ (by omega), Int.tmod_lt_of_pos _ (by omega)⟩
  · have h1 := Int.tmod_nonneg (l.length : Int) ha
    have h2 := Int.tmod_lt_of_pos a (show (0 : Int) < (l.length : Int) by omega)
    have h3 := Int.tdiv_nonneg ha (show (0 : Int) ≤ (l.length : Int) by omega)
    have h4 : Int.tdiv a (l.length : Int) ≤ a := by
      rw [Int.tdiv_eq_ediv_of_nonneg ha]
      exact Int.ediv_le_self _ ha
    obtain ⟨b, hb⟩ : ∃ b, b = rd l (Int.tmod a (l.length : Int)) := ⟨_, rfl⟩
    have hb2 : 0 ≤ b ∧ b ≤ 255 := by
      obtain ⟨m, hm⟩ := Int.eq_ofNat_of_zero_le h1
      rw [hm] at hb h2
      have hml : m < l.length := by omega
      have := okBytes_rd ok m hml
      rw [hb]
      exact this
    rw [if_neg h0, if_pos h1, if_pos h2, if_neg (by omega), ← hb]
    rw [w64 (x := b) (by omega) (by omega), w64 (x := Int.tdiv a (l.length : Int)) (by omega) (by omega), w64 (by omega) (by omega)]
    exact ⟨_, rfl, Int.tmod_nonneg _ (by omega), Int.tmod_lt_of_pos _ (by omega)⟩
/-- A payload of the law. -/
def Good (p : List Int) : Prop := okBytes p = true ∧ 1 ≤ p.length ∧ p.length ≤ 20
def flen (p : List Int) : Nat := 2 + (8 * p.length + 6) / 7
theorem frameM_good {p : List Int} (h : Good p) : frameM p = [128, 128 + (((8 * p.length + 6) / 7 : Nat) : Int)] ++ packM p := by
  obtain ⟨_, h1, h2⟩ := h
  have hc := packM_cnt p
  unfold frameM
  rw [if_neg (by omega), if_neg (by omega), hc]
  congr 2
  · have e : ((((8 * p.length + 6) / 7 : Nat) : Int)) / 128 = 0 := by omega
    rw [e, w64 (x := 0) (by omega) (by omega), w64 (by omega) (by omega)]; omega
  · congr 1
    omega
theorem frameM_glen {p : List Int} (h : Good p) : (frameM p).length = flen p := by
  rw [frameM_good h, List.length_append, packM_cnt]; simp [flen]
theorem frOne_head (p : List Int) (h : Good p) (A : List Int) (hl : flen p ≤ A.length) (h0 : rd A 0 = 128) (h1 : rd A 1 = 128 + (((8 * p.length + 6) / 7 : Nat) : Int)) : frHead A = some ((8 * p.length + 6) / 7) := by
  obtain ⟨_, g1, g2⟩ := h
  unfold flen at hl
  unfold frHead
  have e : (rd A 0 - 128).toNat * 128 + (rd A 1 - 128).toNat = (8 * p.length + 6) / 7 := by rw [h0, h1]; omega
  rw [if_pos (by rw [h0, h1]; omega), e, if_pos (by omega)]
theorem fr_intact (p : List Int) (h : Good p) (X : List Int) : frOne (frameM p ++ X) = some (p, flen p) := by
  have hg := frameM_good h
  have hl := frameM_glen h
  have hh := frOne_head p h (frameM p ++ X) (by rw [List.length_append]; omega) (by rw [hg]; simp [rd]) (by rw [hg]; simp [rd])
  unfold frOne
  rw [hh]
  have e : ((frameM p ++ X).take (2 + (8 * p.length + 6) / 7)).drop 2 = packM p := by
    rw [List.take_append_of_le_length (by rw [hl]; unfold flen; omega), List.take_of_length_le (by rw [hl]; unfold flen; omega), hg]; rfl
  have h1 := h.2.1
  have h2 := h.2.2
  simp only [e, unpack_pack p h.1]
  rw [if_neg (by omega)]; rfl
/-- A damaged frame is none. -/
theorem fr_broken (p : List Int) (h : Good p) (R : List Int) (hl : flen p ≤ R.length) (hr : ∀ j : Nat, j < flen p → rd R j = rd (frameM p) j ∨ rd R j = 0) (hz : ∃ j : Nat, j < flen p ∧ rd R j = 0) : frOne R = none := by
  have hg := frameM_good h
  have r0 : rd (frameM p) 0 = 128 := by rw [hg]; simp [rd]
  have r1 : rd (frameM p) 1 = 128 + (((8 * p.length + 6) / 7 : Nat) : Int) := by rw [hg]; simp [rd]
  have hf : 2 ≤ flen p := by unfold flen; omega
  by_cases h0 : rd R 0 = 0
  · have : frHead R = none := by unfold frHead; rw [if_neg (by omega)]
    unfold frOne; rw [this]
  by_cases h1 : rd R 1 = 0
  · have : frHead R = none := by unfold frHead; rw [if_neg (by omega)]
    unfold frOne; rw [this]
  have a0 := (hr 0 (by omega)).resolve_right h0
  have a1 := (hr 1 (by omega)).resolve_right h1
  have hh := frOne_head p h R hl (by rw [← r0]; exact a0) (by rw [← r1]; exact a1)
  unfold frOne
  rw [hh]
  have hu : unpackM ((R.take (2 + (8 * p.length + 6) / 7)).drop 2) = [] := by
    apply unpack_zero
    obtain ⟨j, hj, hzj⟩ := hz
    have j2 : 2 ≤ j := by
      rcases (by omega : j = 0 ∨ j = 1 ∨ 2 ≤ j) with rfl | rfl | h
      · exact absurd hzj h0
      · exact absurd hzj h1
      · exact h
    have hlj : j < R.length := by omega
    refine ⟨R[j], ?_, ?_⟩
    · rw [List.mem_iff_getElem]
      refine ⟨j - 2, ?_, ?_⟩
      · rw [List.length_drop, List.length_take]; unfold flen at hj hl; omega
      · rw [List.getElem_drop, List.getElem_take]; congr 1; omega
    · have : rd R j = R[j] := by simp [rd, hlj]
      omega
  simp only [hu]
  rw [if_pos (by simp)]
theorem fr_zero (R : List Int) (h : rd R 0 = 0) : frOne R = none := by
  have : frHead R = none := by unfold frHead; rw [if_neg (by omega)]
  unfold frOne; rw [this]
def fl (ps : List (List Int)) : List Int := ps.flatMap frameM
def off (ps : List (List Int)) (i : Nat) : Nat := (fl (ps.take i)).length
theorem scan_all (A rest : List Int) (hn : frOne rest = none) : ∀ (qs : List (List Int)) (a n : Nat), (∀ q ∈ qs, Good q) → A.drop a = fl qs ++ rest → A.length - a < n →
    (frs n A a).map (fun x => x.2) = qs ∧ (qs = [] ∨ frEnd (frs n A a) = a + (fl qs).length) := by
  intro qs
  induction qs with
  | nil =>
    intro a n _ hd hln
    obtain ⟨n, rfl⟩ : ∃ m, n = m + 1 := ⟨n - 1, by omega⟩
    simp only [frs, hd]
    simp only [fl, List.flatMap_nil, List.nil_append, hn]
    simp
  | cons q qs ih =>
    intro a n hg hd hln
    obtain ⟨n, rfl⟩ : ∃ m, n = m + 1 := ⟨n - 1, by omega⟩
    have hq := hg q List.mem_cons_self
    have e : fl (q :: qs) ++ rest = frameM q ++ (fl qs ++ rest) := by simp [fl]
    have hl := frameM_glen hq
    have hone : frOne (A.drop a) = some (q, flen q) := by rw [hd, e]; exact fr_intact q hq _
    have hs := frOne_some hone
    rw [List.length_drop] at hs
    have hd2 : A.drop (a + flen q) = fl qs ++ rest := by
      rw [← List.drop_drop, hd, e, ← hl, List.drop_left]
    obtain ⟨i1, i2⟩ := ih (a + flen q) n (fun x hx => hg x (List.mem_cons_of_mem _ hx)) hd2 (by omega)
    simp only [frs, hone, List.map_cons, i1]
    refine ⟨by simp, .inr ?_⟩
    have e2 : (fl (q :: qs)).length = flen q + (fl qs).length := by simp [fl, hl]
    rcases i2 with rfl | i2
    · have : frs n A (a + flen q) = [] := List.map_eq_nil_iff.mp i1
      rw [this, e2]; simp [fl, frEnd]
    · by_cases hne : frs n A (a + flen q) = []
      · have : qs = [] := by rw [← i1, hne]; rfl
        subst this
        rw [hne, e2]; simp [fl, frEnd]
      · obtain ⟨y, t, hy⟩ := List.exists_cons_of_ne_nil hne
        have h3 : frEnd ((a + flen q, q) :: frs n A (a + flen q)) = frEnd (frs n A (a + flen q)) := by
          rw [hy]; unfold frEnd; rw [List.getLast?_cons_cons]
        rw [h3, i2, e2]; omega
theorem fl_glen {ps : List (List Int)} (h : ∀ p ∈ ps, Good p) : (fl ps).length ≤ 25 * ps.length := by
  induction ps with
  | nil => simp [fl]
  | cons p ps ih =>
    have h1 := h p List.mem_cons_self
    have h2 := ih (fun q hq => h q (List.mem_cons_of_mem _ hq))
    have h3 := frameM_glen h1
    have h4 := h1.2.2
    have e : (fl (p :: ps)).length = flen p + (fl ps).length := by simp [fl, h3]
    rw [e, List.length_cons]; unfold flen; omega
theorem off_succ {ps : List (List Int)} (h : ∀ p ∈ ps, Good p) (i : Nat) (hi : i < ps.length) : off ps (i + 1) = off ps i + flen ps[i] := by
  unfold off
  rw [List.take_succ_eq_append_getElem hi]
  simp only [fl, List.flatMap_append, List.length_append, List.flatMap_cons, List.flatMap_nil, List.append_nil]
  rw [frameM_glen (h _ (List.getElem_mem hi))]
theorem off_mono {ps : List (List Int)} (h : ∀ p ∈ ps, Good p) : ∀ (d i : Nat), i + d ≤ ps.length → off ps i ≤ off ps (i + d) := by
  intro d
  induction d with
  | zero => intro i _; exact Nat.le_refl _
  | succ d ih =>
    intro i hi
    have h1 := ih i (by omega)
    have h2 := off_succ h (i + d) (by omega)
    rw [show i + (d + 1) = i + d + 1 by omega]; omega
theorem off_find {ps : List (List Int)} (h : ∀ p ∈ ps, Good p) (p : Nat) : ∀ f : Nat, f ≤ ps.length → p < off ps f → ∃ i, i < f ∧ off ps i ≤ p ∧ p < off ps (i + 1) := by
  intro f
  induction f with
  | zero => intro _ hp; simp [off, fl] at hp
  | succ f ih =>
    intro hf hp
    by_cases hq : p < off ps f
    · obtain ⟨i, h1, h2, h3⟩ := ih (by omega) hq
      exact ⟨i, by omega, h2, h3⟩
    · exact ⟨f, by omega, by omega, hp⟩
def ends (ps : List (List Int)) : List Int := (List.range ps.length).map fun i => (off ps (i + 1) : Int)
theorem ends_len (ps : List (List Int)) : (ends ps).length = ps.length := by simp [ends]
theorem ends_rd (ps : List (List Int)) (i : Nat) (hi : i < ps.length) : rd (ends ps) i = off ps (i + 1) := by
  simp [rd, ends, hi]
theorem ends_snoc (ps : List (List Int)) (p : List Int) : ends (ps ++ [p]) = ends ps ++ [((fl ps ++ frameM p).length : Int)] := by
  unfold ends
  rw [List.length_append, List.length_singleton, List.range_succ, List.map_append]
  congr 1
  · apply List.map_congr_left
    intro i hi
    rw [List.mem_range] at hi
    unfold off
    rw [List.take_append_of_le_length (by omega)]
  · simp only [List.map_cons, List.map_nil, off]
    rw [List.take_of_length_le (by simp)]
    simp [fl]
/-- The area's first state, and one that was damaged: f is the least frame hit. -/
def A0 (ps : List (List Int)) : List Int := fl ps ++ List.replicate 40 0
structure Torn (ps : List (List Int)) (A : List Int) (f : Nat) : Prop where
  len : A.length = (A0 ps).length
  le : f ≤ ps.length
  each : ∀ j : Nat, rd A j = rd (A0 ps) j ∨ rd A j = 0
  keep : ∀ j : Nat, j < off ps f → rd A j = rd (A0 ps) j
  hit : f < ps.length → ∃ j : Nat, off ps f ≤ j ∧ j < off ps (f + 1) ∧ rd A j = 0
theorem off_all (ps : List (List Int)) : off ps ps.length = (fl ps).length := by unfold off; rw [List.take_length]
theorem Torn.start (ps : List (List Int)) : Torn ps (A0 ps) ps.length := ⟨rfl, Nat.le_refl _, fun _ => .inl rfl, fun _ _ => rfl, fun h => by omega⟩
theorem rd_set (A : List Int) (p j : Nat) (hp : p < A.length) : rd (A.set p 0) j = if j = p then 0 else rd A j := by
  simp only [rd, Int.toNat_natCast, List.getD_eq_getElem?_getD, List.getElem?_set]
  by_cases h : p = j
  · subst h; simp [hp]
  · rw [if_neg h, if_neg (fun e => h e.symm)]
theorem Torn.set {ps : List (List Int)} (hg : ∀ p ∈ ps, Good p) {A : List Int} {f f' p : Nat} (h : Torn ps A f) (hp : p < A.length) (h1 : f' = f ∨ (f' < ps.length ∧ off ps f' ≤ p ∧ p < off ps (f' + 1))) (h2 : f' ≤ f) (h3 : ∀ i < ps.length, off ps i ≤ p → p < off ps (i + 1) → f' ≤ i) : Torn ps (A.set p 0) f' := by
  have hle := h.le
  have hm : off ps f' ≤ off ps f := by
    have := off_mono hg (f - f') f' (by omega)
    rwa [show f' + (f - f') = f by omega] at this
  refine ⟨by rw [List.length_set]; exact h.len, by omega, fun j => ?_, fun j hj => ?_, fun hlt => ?_⟩
  · rw [rd_set A p j hp]
    by_cases e : j = p
    · rw [if_pos e]; exact .inr rfl
    · rw [if_neg e]; exact h.each j
  · rw [rd_set A p j hp, if_neg ?_]
    · exact h.keep j (by omega)
    · rintro rfl
      obtain ⟨i, i1, i2, i3⟩ := off_find hg j f' (by omega) hj
      have := h3 i (by omega) i2 i3
      omega
  · rcases h1 with rfl | ⟨_, h4, h5⟩
    · obtain ⟨j, j1, j2, j3⟩ := h.hit hlt
      refine ⟨j, j1, j2, ?_⟩
      rw [rd_set A p j hp]
      by_cases e : j = p
      · rw [if_pos e]
      · rw [if_neg e, j3]
    · exact ⟨p, h4, h5, by rw [rd_set A p p hp, if_pos rfl]⟩
theorem rd_drop (A : List Int) (a j : Nat) : rd (A.drop a) j = rd A ((a + j : Nat) : Int) := by
  unfold rd; rw [Int.toNat_natCast, Int.toNat_natCast]; simp [List.getElem?_drop]
theorem list_rd {A B : List Int} (hl : A.length = B.length) (h : ∀ j : Nat, j < A.length → rd A j = rd B j) : A = B := by
  apply List.ext_getElem hl
  intro j h1 h2
  have := h j h1
  simpa [rd, h1, h2] using this
theorem Torn.scan {ps : List (List Int)} (hg : ∀ p ∈ ps, Good p) {A : List Int} {f : Nat} (h : Torn ps A f) : (frAll A 0).map (fun x => x.2) = ps.take f ∧ frEnd (frAll A 0) = off ps f := by
  have hle := h.le
  have hlen := h.len
  have hA0 : (A0 ps).length = (fl ps).length + 40 := by simp [A0]
  have hof : off ps f ≤ (fl ps).length := by
    have := off_mono hg (ps.length - f) f (by omega)
    rwa [show f + (ps.length - f) = ps.length by omega, off_all] at this
  have hsplit : ∀ i, i ≤ ps.length → A0 ps = fl (ps.take i) ++ (fl (ps.drop i) ++ List.replicate 40 0) := fun i _ => by
    unfold A0
    rw [← List.append_assoc]
    congr 1
    unfold fl
    rw [← List.flatMap_append, List.take_append_drop]
  have htake : A.take (off ps f) = fl (ps.take f) := by
    apply list_rd
    · rw [List.length_take]; unfold off at *; omega
    · intro j hj
      rw [List.length_take] at hj
      have e1 : rd (A.take (off ps f)) j = rd A j := by simp [rd, List.getElem?_take, show j < off ps f by omega]
      rw [e1, h.keep j (by omega), hsplit f hle]
      have : j < (fl (ps.take f)).length := by unfold off at hj; omega
      simp [rd, List.getElem?_append, this]
  have hd : A.drop 0 = fl (ps.take f) ++ A.drop (off ps f) := by rw [← htake, List.take_append_drop]; rfl
  have hrest : frOne (A.drop (off ps f)) = none := by
    by_cases hf : f < ps.length
    · have hgp := hg _ (List.getElem_mem hf)
      have hos := off_succ hg f hf
      have hos2 : off ps (f + 1) ≤ (fl ps).length := by
        have := off_mono hg (ps.length - (f + 1)) (f + 1) (by omega)
        rwa [show f + 1 + (ps.length - (f + 1)) = ps.length by omega, off_all] at this
      have hA : ∀ j : Nat, j < flen ps[f] → rd (A0 ps) ((off ps f + j : Nat) : Int) = rd (frameM ps[f]) j := fun j hj => by
        rw [← rd_drop]
        have : (A0 ps).drop (off ps f) = frameM ps[f] ++ (fl (ps.drop (f + 1)) ++ List.replicate 40 0) := by
          rw [hsplit f hle]
          unfold off
          rw [List.drop_left, List.drop_eq_getElem_cons hf]
          simp only [fl, List.flatMap_cons, List.append_assoc]
        rw [this]
        have hj2 : j < (frameM ps[f]).length := by rw [frameM_glen hgp]; exact hj
        simp [rd, List.getElem?_append, hj2]
      refine fr_broken ps[f] hgp _ (by rw [List.length_drop]; omega) (fun j hj => ?_) ?_
      · rw [rd_drop, ← hA j hj]; exact h.each _
      · obtain ⟨j, j1, j2, j3⟩ := h.hit hf
        refine ⟨j - off ps f, by omega, ?_⟩
        rw [rd_drop, show off ps f + (j - off ps f) = j by omega]; exact j3
    · have e : f = ps.length := by omega
      apply fr_zero
      have h0 := rd_drop A (off ps f) 0
      rw [show ((0 : Nat) : Int) = 0 by rfl] at h0
      rw [h0, Nat.add_zero]
      have hz : rd (A0 ps) ((off ps f : Nat) : Int) = 0 := by
        rw [e, off_all]
        unfold A0
        simp [rd]
      rcases h.each (off ps f) with h1 | h1
      · rw [h1, hz]
      · exact h1
  have := scan_all A _ hrest (ps.take f) 0 (A.length + 1) (fun q hq => hg q (List.mem_of_mem_take hq)) hd (by omega)
  obtain ⟨t1, t2⟩ := this
  refine ⟨t1, ?_⟩
  rcases t2 with t2 | t2
  · have : frAll A 0 = [] := by
      rw [t2] at t1; exact List.map_eq_nil_iff.mp t1
    rw [this]; unfold off; rw [t2]; rfl
  · unfold frAll; rw [t2]; unfold off; omega
theorem torn_l4 (ps : List (List Int)) (hps : ps.length ≤ 30) (x1 : List Int) (x5 : List ByteArray) (A : List Int) (x13 x14 x15 : Int) (p : Nat) : ∀ (d f : Nat), d ≤ ps.length → f ≤ ps.length →
    (∀ f' : Nat, (f' = f ∨ (f' < ps.length ∧ off ps f' ≤ p ∧ p < off ps (f' + 1))) → f' ≤ f → (∀ i, i < d → off ps i ≤ p → p < off ps (i + 1) → f' ≤ i) → Ev (fun k => laws_FnTornLog.l3 k x1 x5 A (ends ps) f' x13 x14 x15 (wrap64 ((p : Int) + 1))) true) →
    Ev (fun k => laws_FnTornLog.l4 k x1 x5 A (ends ps) f x13 x14 x15 p ((d : Int) - 1)) true := by
  intro d
  induction d with
  | zero =>
    intro f _ _ H
    refine Ev.step (fun k => ?_) (H f (.inl rfl) (Nat.le_refl _) (fun i hi => absurd hi (Nat.not_lt_zero i)))
    simp only [laws_FnTornLog.l4]
    rw [if_neg (by omega)]
  | succ d ih =>
    intro f hd hf H
    rw [show (((d + 1 : Nat) : Int) - 1) = d by omega]
    have hz : wrap64 ((d : Int) - 1) = (d : Int) - 1 := w64 (by omega) (by omega)
    have K : ∀ g : Nat, (g = f ∨ (g < ps.length ∧ off ps g ≤ p ∧ p < off ps (g + 1))) → g ≤ f → (off ps d ≤ p → p < off ps (d + 1) → g ≤ d) → Ev (fun k => laws_FnTornLog.l4 k x1 x5 A (ends ps) g x13 x14 x15 p ((d : Int) - 1)) true := fun g h1 h2 h3 => ih g (by omega) (by omega) (fun f' a b c => H f' (by rcases a with rfl | a; exact h1; exact .inr a) (by omega) (fun i hi h4 h5 => by
        rcases (by omega : i = d ∨ i < d) with rfl | hi2
        · have := h3 h4 h5; omega
        · exact c i hi2 h4 h5))
    have e1 := ends_rd ps d (by omega)
    have hl := ends_len ps
    by_cases c1 : p < off ps (d + 1)
    · by_cases hd0 : d = 0
      · subst hd0
        by_cases c3 : 0 < f
        · refine Ev.step (fun k => ?_) (K 0 (.inr ⟨by omega, by simp [off, fl], c1⟩) (by omega) (fun _ _ => Nat.le_refl _))
          simp only [laws_FnTornLog.l4]
          rw [if_pos (by omega), if_pos (by omega), if_pos (by omega), e1, if_pos (by omega), if_pos (by rfl), if_pos (by omega), hz]
        · refine Ev.step (fun k => ?_) (K f (.inl rfl) (Nat.le_refl _) (fun _ _ => by omega))
          simp only [laws_FnTornLog.l4]
          rw [if_pos (by omega), if_pos (by omega), if_pos (by omega), e1, if_pos (by omega), if_pos (by rfl), if_neg (by omega), hz]
      · have e2 := ends_rd ps (d - 1) (by omega)
        rw [show ((d - 1 : Nat) : Int) = (d : Int) - 1 by omega, show d - 1 + 1 = d by omega] at e2
        by_cases c2 : off ps d ≤ p
        · by_cases c3 : d < f
          · refine Ev.step (fun k => ?_) (K d (.inr ⟨by omega, c2, c1⟩) (by omega) (fun _ _ => Nat.le_refl _))
            simp only [laws_FnTornLog.l4]
            rw [if_pos (by omega), if_pos (by omega), if_pos (by omega), e1, if_pos (by omega), if_neg (by omega), hz, if_pos (by omega), if_pos (by omega), e2, if_pos (by omega), if_pos (by omega)]
          · refine Ev.step (fun k => ?_) (K f (.inl rfl) (Nat.le_refl _) (fun _ _ => by omega))
            simp only [laws_FnTornLog.l4]
            rw [if_pos (by omega), if_pos (by omega), if_pos (by omega), e1, if_pos (by omega), if_neg (by omega), hz, if_pos (by omega), if_pos (by omega), e2, if_pos (by omega), if_neg (by omega)]
        · refine Ev.step (fun k => ?_) (K f (.inl rfl) (Nat.le_refl _) (fun _ _ => by omega))
          simp only [laws_FnTornLog.l4]
          rw [if_pos (by omega), if_pos (by omega), if_pos (by omega), e1, if_pos (by omega), if_neg (by omega), hz, if_pos (by omega), if_pos (by omega), e2, if_neg (by omega)]
    · refine Ev.step (fun k => ?_) (K f (.inl rfl) (Nat.le_refl _) (fun _ _ => by omega))
      simp only [laws_FnTornLog.l4]
      rw [if_pos (by omega), if_pos (by omega), if_pos (by omega), e1, if_neg (by omega), hz]
theorem torn_l3 (ps : List (List Int)) (hg : ∀ p ∈ ps, Good p) (hps : ps.length ≤ 30) (x1 : List Int) (x5 : List ByteArray) (h5 : x5.length = ps.length) (x13 : Int) (q s : Nat) (hqs : q + s ≤ 100000) : ∀ (d p f : Nat) (A : List Int), p + d = q + s → Torn ps A f →
    (∀ (A' : List Int) (f' : Nat), Torn ps A' f' → Ev (fun k => laws_FnTornLog.l2 k x1 x5 A' (ends ps) f' (wrap64 (x13 + 1))) true) →
    Ev (fun k => laws_FnTornLog.l3 k x1 x5 A (ends ps) f x13 q s p) true := by
  intro d
  induction d with
  | zero =>
    intro p f A hp hT H
    refine Ev.step (f := fun k => laws_FnTornLog.j6 k x1 x5 A (ends ps) f x13 q s p false) (fun k => ?_) (Ev.step (fun k => ?_) (H A f hT))
    · simp only [laws_FnTornLog.l3]
      rw [w64 (by omega) (by omega), if_neg (by omega)]
    · simp [laws_FnTornLog.j6]
  | succ d ih =>
    intro p f A hp hT H
    refine Ev.step (f := fun k => laws_FnTornLog.j6 k x1 x5 A (ends ps) f x13 q s p (decide ((p : Int) < (A.length : Int)))) (fun k => ?_) ?_
    · simp only [laws_FnTornLog.l3]
      rw [w64 (by omega) (by omega), if_pos (by omega)]
    · by_cases hA : p < A.length
      · refine Ev.step (f := fun k => laws_FnTornLog.l4 k x1 x5 (A.set p 0) (ends ps) f x13 q s p ((ps.length : Int) - 1)) (fun k => ?_) ?_
        · simp only [laws_FnTornLog.j6]
          rw [if_pos (decide_eq_true (by omega)), if_pos (by omega), if_pos (by omega), h5, w64 (by omega) (by omega), Int.toNat_natCast]
        · refine torn_l4 ps hps x1 x5 _ x13 q s p ps.length f (Nat.le_refl _) hT.le (fun f' a b c => ?_)
          rw [w64 (by omega) (by omega), show ((p : Int) + 1) = ((p + 1 : Nat) : Int) by omega]
          exact ih (p + 1) f' _ (by omega) (hT.set hg hA a b c) H
      · refine Ev.step (fun k => ?_) (H A f hT)
        simp only [laws_FnTornLog.j6]
        rw [if_neg (by rw [decide_eq_false (by omega)]; decide)]
theorem A0_len {ps : List (List Int)} (hg : ∀ p ∈ ps, Good p) (hps : ps.length ≤ 30) : (A0 ps).length ≤ 790 := by
  have := fl_glen hg
  simp only [A0, List.length_append, List.length_replicate]; omega
theorem torn_l2 (ps : List (List Int)) (hg : ∀ p ∈ ps, Good p) (hps : ps.length ≤ 30) (x1 : List Int) (ok1 : okBytes x1 = true) (hl1 : x1.length ≤ 1048576) (x5 : List ByteArray) (h5 : x5.length = ps.length) (H : ∀ (A' : List Int) (f' : Nat), Torn ps A' f' → Ev (fun k => laws_FnTornLog.j8 k x5 A' f' (off ps f')) true) : ∀ (d x13 f : Nat) (A : List Int), x13 + d = 3 → Torn ps A f →
    Ev (fun k => laws_FnTornLog.l2 k x1 x5 A (ends ps) f x13) true := by
  intro d
  induction d with
  | zero =>
    intro x13 f A hx hT
    refine Ev.step (fun k => ?_) (H A f hT)
    simp only [laws_FnTornLog.l2]
    rw [if_neg (by omega)]
    have hle := hT.le
    by_cases hf : f = 0
    · subst hf
      rw [if_neg (by omega)]; simp [off, fl]
    · have e := ends_rd ps (f - 1) (by omega)
      rw [show ((f - 1 : Nat) : Int) = (f : Int) - 1 by omega, show f - 1 + 1 = f by omega] at e
      rw [if_pos (by omega), w64 (by omega) (by omega), if_pos (by omega), if_pos (by rw [ends_len]; omega), e]
  | succ d ih =>
    intro x13 f A hx hT
    obtain ⟨a, ha, ha0, ha1⟩ := lwAt_t x1 ok1 hl1 (31 + 2 * x13) 256 (by omega) (by omega) (by omega) (by omega)
    obtain ⟨b, hb, hb0, hb1⟩ := lwAt_t x1 ok1 hl1 (32 + 2 * x13) 30 (by omega) (by omega) (by omega) (by omega)
    have hlen := hT.len
    have h790 := A0_len hg hps
    obtain ⟨a, rfl⟩ := Int.eq_ofNat_of_zero_le ha0
    obtain ⟨b, rfl⟩ := Int.eq_ofNat_of_zero_le hb0
    have hm : a * A.length ≤ 255 * 790 := Nat.mul_le_mul (by omega) (by omega)
    have hc : (a : Int) * (A.length : Int) = ((a * A.length : Nat) : Int) := by push_cast; rfl
    have ht : Int.tdiv ((a * A.length : Nat) : Int) 200 = ((a * A.length / 200 : Nat) : Int) := by
      rw [Int.tdiv_eq_ediv_of_nonneg (by omega)]; omega
    refine Ev.step (f := fun k => laws_FnTornLog.l3 k x1 x5 A (ends ps) f x13 ((a * A.length / 200 : Nat) : Int) (b : Int) ((a * A.length / 200 : Nat) : Int)) (fun k => ?_) ?_
    · simp only [laws_FnTornLog.l2]
      rw [if_pos (by omega), w64 (x := 2 * (x13 : Int)) (by omega) (by omega), w64 (x := 31 + 2 * (x13 : Int)) (by omega) (by omega), w64 (x := 32 + 2 * (x13 : Int)) (by omega) (by omega), ha, hb]
      simp only [Option.bind_some]
      rw [hc, w64 (x := ((a * A.length : Nat) : Int)) (by omega) (by omega), ht, w64 (by omega) (by omega)]
    · refine torn_l3 ps hg hps x1 x5 h5 x13 _ b (by omega) b _ f A rfl hT (fun A' f' hT' => ?_)
      rw [w64 (by omega) (by omega), show ((x13 : Int) + 1) = ((x13 + 1 : Nat) : Int) by omega]
      exact ih (x13 + 1) f' A' (by omega) hT'
theorem packM_le (l : List Int) : ∀ x ∈ packM l, x ≤ 255 := by
  intro x hx
  obtain ⟨gs, rem, hg, hr, hr7, _, hp⟩ := pack_shape l
  rw [hp] at hx
  rcases List.mem_append.mp hx with h | h
  · obtain ⟨g, hm, rfl⟩ := List.mem_map.mp h
    have h1 := val_lt (hg g hm).2
    rw [(hg g hm).1] at h1
    omega
  · split at h
    · rw [List.mem_singleton] at h; subst h
      have h1 := val_lt hr
      have h2 : val rem * 2 ^ (7 - rem.length) < 2 ^ rem.length * 2 ^ (7 - rem.length) := (Nat.mul_lt_mul_right (Nat.two_pow_pos _)).mpr h1
      rw [← Nat.pow_add, show rem.length + (7 - rem.length) = 7 by omega] at h2
      omega
    · cases h
theorem frameM_ok {p : List Int} (h : Good p) : ∀ x ∈ frameM p, 0 ≤ x ∧ x ≤ 255 := by
  intro x hx
  rw [frameM_good h] at hx
  have h2 := h.2.2
  rcases List.mem_append.mp hx with h1 | h1
  · simp only [List.mem_cons, List.not_mem_nil, or_false] at h1
    rcases h1 with rfl | rfl <;> omega
  · have := packM_le p x h1
    have := packM_ge p x h1
    omega
theorem A0_ok {ps : List (List Int)} (hg : ∀ p ∈ ps, Good p) : ∀ x ∈ A0 ps, 0 ≤ x ∧ x ≤ 255 := by
  intro x hx
  rcases List.mem_append.mp hx with h | h
  · obtain ⟨p, hp, hx⟩ := List.mem_flatMap.mp h
    exact frameM_ok (hg p hp) x hx
  · have := (List.mem_replicate.mp h).2
    omega
theorem Torn.ok {ps : List (List Int)} (hg : ∀ p ∈ ps, Good p) {A : List Int} {f : Nat} (h : Torn ps A f) : okBytes A = true := by
  refine List.all_eq_true.mpr (fun x hx => decide_eq_true ?_)
  obtain ⟨j, hj, rfl⟩ := List.mem_iff_getElem.mp hx
  have e : rd A j = A[j] := by simp [rd, hj]
  rcases h.each j with h1 | h1
  · have hl : j < (A0 ps).length := by rw [← h.len]; exact hj
    have e2 : rd (A0 ps) j = (A0 ps)[j] := by simp [rd, hl]
    rw [← e, h1, e2]
    exact A0_ok hg _ (List.getElem_mem hl)
  · rw [← e, h1]; omega
theorem torn_l5 (ps : List (List Int)) (f : Nat) (hf : f ≤ ps.length) (hps : ps.length ≤ 30) (xs : List S50) (hx : xs = (ps.take f).map (fun p => ⟨p⟩)) (e : Int) : ∀ (d i : Nat), i + d = f → Ev (fun k => laws_FnTornLog.l5 k (ps.map strOfNums) f i xs e) true := by
  intro d
  induction d with
  | zero =>
    intro i hi
    refine Ev.step (f := fun _ => some true) (fun k => ?_) (Ev.now _)
    simp only [laws_FnTornLog.l5]
    rw [if_neg (by omega), frame_impl [7] (by decide) (by decide)]
    have h7 : Good [7] := ⟨by decide, by decide, by decide⟩
    rw [Option.bind_some, frameM_glen h7]; rfl
  | succ d ih =>
    intro i hi
    have hxl : xs.length = f := by rw [hx, List.length_map, List.length_take]; omega
    have hip : i < ps.length := by omega
    have e1 : (rd_T50 xs i).f0 = ps[i] := by
      rw [hx]
      simp [rd_T50, List.getElem?_take, show i < f by omega, hip]
    have e2 : rdOf ByteArray.empty (ps.map strOfNums) i = strOfNums ps[i] := by
      simp [rdOf, hip]
    refine Ev.step (fun k => ?_) (ih (i + 1) (by omega))
    simp only [laws_FnTornLog.l5]
    rw [if_pos (by omega), if_pos (by omega), if_pos (by omega), if_pos (by rw [List.length_map]; omega), e1, e2, if_pos rfl, w64 (by omega) (by omega)]
    rfl
theorem torn_j8 (ps : List (List Int)) (hg : ∀ p ∈ ps, Good p) (hps : ps.length ≤ 30) (A : List Int) (f : Nat) (hT : Torn ps A f) : Ev (fun k => laws_FnTornLog.j8 k (ps.map strOfNums) A f (off ps f)) true := by
  obtain ⟨s1, s2⟩ := hT.scan hg
  have hlen := hT.len
  have hle := hT.le
  have h790 := A0_len hg hps
  have hs : impl_ScanFrames.f A = some ((frAll A 0).map (fun x => ⟨x.2⟩), (off ps f : Int)) := by
    unfold impl_ScanFrames.f
    rw [if_pos ⟨hT.ok hg, by omega⟩, if_neg (by omega), s2]
  have hx : ((frAll A 0).map (fun x => (⟨x.2⟩ : S50))) = (ps.take f).map (fun p => ⟨p⟩) := by
    rw [← s1, List.map_map]; rfl
  have hxl : ((frAll A 0).map (fun x => (⟨x.2⟩ : S50))).length = f := by rw [hx, List.length_map, List.length_take]; omega
  refine Ev.step (f := fun k => laws_FnTornLog.j9 k (ps.map strOfNums) f false ((frAll A 0).map (fun x => ⟨x.2⟩)) (off ps f : Int)) (fun k => ?_) (Ev.step (f := fun k => laws_FnTornLog.l5 k (ps.map strOfNums) f ((0 : Nat) : Int) ((frAll A 0).map (fun x => ⟨x.2⟩)) (off ps f : Int)) (fun k => ?_) (torn_l5 ps f hle hps _ hx _ f 0 (by omega)))
  · simp only [laws_FnTornLog.j8]
    rw [hs, Option.bind_some, if_pos (by simp only; rw [hxl])]
    simp
  · simp only [laws_FnTornLog.j9]
    rw [if_neg (by decide)]; rfl
theorem torn_l1 (ps : List (List Int)) (hg : ∀ p ∈ ps, Good p) (hps : ps.length ≤ 30) (x1 : List Int) (ok1 : okBytes x1 = true) (hl1 : x1.length ≤ 1048576) : ∀ (d i : Nat), i + d = 40 → Ev (fun k => laws_FnTornLog.l1 k x1 (ps.map strOfNums) (fl ps ++ List.replicate i 0) (ends ps) i) true := by
  have hfl := fl_glen hg
  intro d
  induction d with
  | zero =>
    intro i hi
    obtain rfl : i = 40 := by omega
    refine Ev.step (f := fun k => laws_FnTornLog.l2 k x1 (ps.map strOfNums) (A0 ps) (ends ps) ps.length ((0 : Nat) : Int)) (fun k => ?_) (torn_l2 ps hg hps x1 ok1 hl1 _ (by rw [List.length_map]) (fun A' f' hT => torn_j8 ps hg hps A' f' hT) 3 0 ps.length _ rfl (Torn.start ps))
    simp only [laws_FnTornLog.l1]
    rw [if_neg (by omega), List.length_map]; rfl
  | succ d ih =>
    intro i hi
    refine Ev.step (fun k => ?_) (ih (i + 1) (by omega))
    simp only [laws_FnTornLog.l1]
    rw [if_pos (by omega), if_pos (by rw [List.length_append, List.length_replicate]; omega), w64 (by omega) (by omega), List.append_assoc, ← List.replicate_succ']
    rfl
theorem torn_l0 (x0 x1 : List Int) (ok0 : okBytes x0 = true) (hl0 : x0.length ≤ 1048576) (ok1 : okBytes x1 = true) (hl1 : x1.length ≤ 1048576) : ∀ (d : Nat) (ps : List (List Int)) (a : Nat), ps.length + d = 30 → (∀ p ∈ ps, Good p) → a ≤ x0.length →
    Ev (fun k => laws_FnTornLog.l0 k x0 x1 (ps.map strOfNums) (fl ps) (ends ps) a) true := by
  intro d
  induction d with
  | zero =>
    intro ps a hp hg ha
    have fin := torn_l1 ps hg (by omega) x1 ok1 hl1 40 0 rfl
    simp only [List.replicate_zero, List.append_nil] at fin
    refine Ev.step (f := fun k => laws_FnTornLog.j2 k x0 x1 (ps.map strOfNums) (fl ps) (ends ps) a false) (fun k => ?_) (Ev.step (fun k => ?_) fin)
    · simp only [laws_FnTornLog.l0]
      by_cases h : (a : Int) < (x0.length : Int)
      · rw [if_pos h, decide_eq_false (by rw [List.length_map]; omega)]
      · rw [if_neg h]
    · simp [laws_FnTornLog.j2]
  | succ d ih =>
    intro ps a hp hg ha
    by_cases h : a < x0.length
    · refine Ev.step (f := fun k => laws_FnTornLog.j2 k x0 x1 (ps.map strOfNums) (fl ps) (ends ps) a true) (fun k => ?_) ?_
      · simp only [laws_FnTornLog.l0]
        rw [if_pos (by omega), decide_eq_true (by rw [List.length_map]; omega)]
      · obtain ⟨t, ht, ht0, ht1⟩ := lwAt_t x1 ok1 hl1 (ps.length : Int) 20 (by omega) (by omega) (by omega) (by omega)
        obtain ⟨t, rfl⟩ := Int.eq_ofNat_of_zero_le ht0
        have hfl := fl_glen hg
        have key : ∀ n : Nat, 1 ≤ n → n ≤ 20 → a + n ≤ x0.length → Good ((x0.take (a + n)).drop a) ∧ ((x0.take (a + n)).drop a).length = n := fun n h1 h2 h3 => by
          have hn : ((x0.take (a + n)).drop a).length = n := by rw [List.length_drop, List.length_take]; omega
          exact ⟨⟨List.all_eq_true.mpr (fun x hx => List.all_eq_true.mp ok0 x (List.mem_of_mem_take (List.mem_of_mem_drop hx))), by omega, by omega⟩, hn⟩
        have next : ∀ n : Nat, 1 ≤ n → n ≤ 20 → a + n ≤ x0.length → Ev (fun k => laws_FnTornLog.l0 k x0 x1 (ps.map strOfNums ++ [strOfNums ((x0.take (a + n)).drop a)]) (fl ps ++ frameM ((x0.take (a + n)).drop a)) (ends ps ++ [((fl ps ++ frameM ((x0.take (a + n)).drop a)).length : Int)]) ((a + n : Nat) : Int)) true := fun n h1 h2 h3 => by
          have := ih (ps ++ [(x0.take (a + n)).drop a]) (a + n) (by rw [List.length_append, List.length_singleton]; omega) (fun p hp => by
            rcases List.mem_append.mp hp with hp | hp
            · exact hg p hp
            · rw [List.mem_singleton] at hp; subst hp; exact (key n h1 h2 h3).1) h3
          rw [ends_snoc, List.map_append, List.map_singleton] at this
          rw [show fl (ps ++ [(x0.take (a + n)).drop a]) = fl ps ++ frameM ((x0.take (a + n)).drop a) by simp [fl]] at this
          exact this
        have hfr : ∀ n : Nat, 1 ≤ n → n ≤ 20 → a + n ≤ x0.length → impl_Frame.f ((x0.take (a + n)).drop a) = some (frameM ((x0.take (a + n)).drop a)) ∧ (frameM ((x0.take (a + n)).drop a)).length = 2 + (8 * n + 6) / 7 := fun n h1 h2 h3 => by
          have ⟨k1, k2⟩ := key n h1 h2 h3
          refine ⟨frame_impl _ k1.1 (by omega), ?_⟩
          rw [frameM_glen k1, flen, k2]
        have hdv : ∀ n : Nat, n ≤ 20 → wrap64 (2 + wrap64 (Int.tdiv (wrap64 (wrap64 (8 * (n : Int)) + 6)) 7)) = ((2 + (8 * n + 6) / 7 : Nat) : Int) := fun n h2 => by
          rw [w64 (x := 8 * (n : Int)) (by omega) (by omega), w64 (x := 8 * (n : Int) + 6) (by omega) (by omega), Int.tdiv_eq_ediv_of_nonneg (by omega), w64 (x := (8 * (n : Int) + 6) / 7) (by omega) (by omega), w64 (by omega) (by omega)]
          omega
        by_cases hc : a + (1 + t) > x0.length
        · obtain ⟨n, hn⟩ : ∃ n, n = x0.length - a := ⟨_, rfl⟩
          have ⟨f1, f2⟩ := hfr n (by omega) (by omega) (by omega)
          refine Ev.step (fun k => ?_) (next n (by omega) (by omega) (by omega))
          simp only [laws_FnTornLog.j2]
          rw [if_pos trivial, List.length_map, ht, Option.bind_some, w64 (x := 1 + (t : Int)) (by omega) (by omega), w64 (x := (a : Int) + (1 + (t : Int))) (by omega) (by omega), if_pos (by omega), w64 (x := (x0.length : Int) - (a : Int)) (by omega) (by omega), show (x0.length : Int) - (a : Int) = (n : Int) by omega, w64 (x := (a : Int) + (n : Int)) (by omega) (by omega), show (a : Int) + (n : Int) = ((a + n : Nat) : Int) by omega, Int.toNat_natCast, Int.toNat_natCast, if_pos (by omega), if_pos (by omega), if_pos (by omega), f1, Option.bind_some, hdv n (by omega), if_pos (by rw [f2]), if_pos (by omega), if_pos (by omega), Option.bind_some, if_pos (by rw [ends_len]; omega)]
        · obtain ⟨n, hn⟩ : ∃ n, n = 1 + t := ⟨_, rfl⟩
          have ⟨f1, f2⟩ := hfr n (by omega) (by omega) (by omega)
          refine Ev.step (fun k => ?_) (next n (by omega) (by omega) (by omega))
          simp only [laws_FnTornLog.j2]
          rw [if_pos trivial, List.length_map, ht, Option.bind_some, w64 (x := 1 + (t : Int)) (by omega) (by omega), show 1 + (t : Int) = (n : Int) by omega, w64 (x := (a : Int) + (n : Int)) (by omega) (by omega), show (a : Int) + (n : Int) = ((a + n : Nat) : Int) by omega, if_neg (by omega), Int.toNat_natCast, Int.toNat_natCast, if_pos (by omega), if_pos (by omega), if_pos (by omega), f1, Option.bind_some, hdv n (by omega), if_pos (by rw [f2]), if_pos (by omega), if_pos (by omega), Option.bind_some, if_pos (by rw [ends_len]; omega)]
    · have fin := torn_l1 ps hg (by omega) x1 ok1 hl1 40 0 rfl
      simp only [List.replicate_zero, List.append_nil] at fin
      refine Ev.step (f := fun k => laws_FnTornLog.j2 k x0 x1 (ps.map strOfNums) (fl ps) (ends ps) a false) (fun k => ?_) (Ev.step (fun k => ?_) fin)
      · simp only [laws_FnTornLog.l0]
        rw [if_neg (by omega)]
      · simp [laws_FnTornLog.j2]
theorem FnTornLog : laws_FnTornLog.Pure := by
  intro l0 l1 _ _ h2 _ _ h4
  apply Ev.rounds
  have ok0 : okBytes l0 = true := List.all_eq_true.mpr (fun x hx => decide_eq_true (u8_wf (h2 x hx)))
  have ok1 : okBytes l1 = true := List.all_eq_true.mpr (fun x hx => decide_eq_true (u8_wf (h4 x hx)))
  simp only [laws_FnTornLog.f]
  by_cases hl : (l0.length : Int) > 1048576
  · refine Ev.pos hl (Ev.step (f := fun _ => some true) (fun k => ?_) (Ev.now _))
    simp only [laws_FnTornLog.j0]; rw [if_pos trivial]
  refine Ev.neg hl ?_
  by_cases hl1 : (l1.length : Int) > 1048576
  · refine Ev.step (f := fun _ => some true) (fun k => ?_) (Ev.now _)
    simp only [laws_FnTornLog.j0]; rw [if_pos (decide_eq_true hl1)]
  · refine Ev.step (fun k => ?_) (torn_l0 l0 l1 ok0 (by omega) ok1 (by omega) 30 [] 0 rfl (fun p hp => by cases hp) (by omega))
    simp only [laws_FnTornLog.j0]; rw [if_neg (by rw [decide_eq_false hl1]; decide)]; rfl

end Go.Proofs.Ytejecjjimggjeaa.Pure
