/- What is proved: the law FnExactEncodeSuper returns true: at every superblock the program's EncodeSuper gives the reference's 64 bytes (or nil), in memory of its own, and leaves its argument alone. Conditions: none. -/
import Derived.Test.YtmjfoickgcapmaaGFnExactEncodeSuperx3
namespace Go.Proofs.Ytmjfoickgcapmaa.Pure
open Go.RowKit Go.Proofs.Ytmjfoickgcapmaa.GFnExactEncodeSuper Go.Proofs.YtmjfoickgcapmaaW.PrintWords Go.Proofs.YtmjfoickgcapmaaW.PrintLast Go.Proofs.YtmjfoickgcapmaaW.PrintMore
set_option linter.unusedVariables false
set_option linter.unusedSimpArgs false

theorem w64 {x : Int} (h0 : -9223372036854775808 ≤ x) (h1 : x < 9223372036854775808) : wrap64 x = x := by unfold wrap64; omega
theorem u8_wf {x : Int} (h : (Lit.int .u8 x).wf = true) : 0 ≤ x ∧ x ≤ 255 := by
  simp [Lit.wf, IntKind.min, IntKind.max, IntKind.signed, IntKind.bits] at h
  omega
theorem Ev.pos {α : Type} {c : Prop} [Decidable c] {f g : Nat → Option α} {r : α} (hc : c) (h : Ev f r) : Ev (fun n => if c then f n else g n) r := Ev.congr (fun _ => if_pos hc) h
theorem Ev.neg {α : Type} {c : Prop} [Decidable c] {f g : Nat → Option α} {r : α} (hc : ¬c) (h : Ev g r) : Ev (fun n => if c then f n else g n) r := Ev.congr (fun _ => if_neg hc) h
theorem Ev.ofE {α : Type} {f : Option α} {r : α} (h : f = some r) : Ev (fun _ => f) r := ⟨0, fun _ _ => h⟩
theorem Ev.bindS {α β : Type} {g : Option α} {f : Nat → α → Option β} {a : α} {r : β} (h : g = some a) (k : Ev (fun n => f n a) r) : Ev (fun n => g.bind (f n)) r := Ev.congr (fun _ => by rw [h]; rfl) k
def beB : Nat → Nat → List Int
  | 0, _ => []
  | n + 1, v => beB n (v / 256) ++ [((v % 256 : Nat) : Int)]
theorem beB_len (n : Nat) : ∀ v, (beB n v).length = n := by
  induction n with
  | zero => intro v; rfl
  | succ n ih => intro v; simp [beB, ih]
theorem beB_head (n : Nat) : ∀ v, beB (n + 1) v = ((v / 256 ^ n % 256 : Nat) : Int) :: beB n v := by
  induction n with
  | zero => intro v; simp [beB]
  | succ n ih =>
    intro v
    rw [show beB (n + 1 + 1) v = beB (n + 1) (v / 256) ++ [((v % 256 : Nat) : Int)] from rfl, ih, show beB (n + 1) v = beB n (v / 256) ++ [((v % 256 : Nat) : Int)] from rfl, Nat.div_div_eq_div_mul, Nat.pow_succ, Nat.mul_comm 256]
    rfl
theorem specBig_ev (n : Nat) : ∀ (v : Nat), v < 9223372036854775808 → n ≤ 1000 → Ev (fun k => spec_l4Big.f k v n) (beB n v) := by
  induction n with
  | zero => intro v _ _; exact Ev.step (fun k => by simp only [spec_l4Big.f]; exact if_pos (by rfl)) (Ev.now _)
  | succ n ih =>
    intro v hv hn
    refine Ev.step (fun k => by simp only [spec_l4Big.f]; rw [if_neg (by omega), show Int.tdiv (v : Int) 256 = ((v / 256 : Nat) : Int) from rfl, show Int.tmod (v : Int) 256 = ((v % 256 : Nat) : Int) from rfl, w64 (by omega) (by omega), w64 (by omega) (by omega), show ((n + 1 : Nat) : Int) - 1 = (n : Int) by omega]) ?_
    refine Ev.bind (ih (v / 256) (by omega) (by omega)) (Ev.pos (by rw [beB_len]; omega) ?_)
    rw [show ((v % 256 : Nat) : Int) % 256 = ((v % 256 : Nat) : Int) by omega]
    exact Ev.now _
theorem implBig_l (v : Nat) (hv : v < 9223372036854775808) (n : Nat) : ∀ (x : List Int), n ≤ 8 → x.length + n ≤ 1000100 → Ev (fun k => impl_big.l0 k x v ((n : Int) - 1)) (x ++ beB n v) := by
  induction n with
  | zero => intro x _ _; simpa [beB] using (Ev.step (fun k => by simp only [impl_big.l0]; exact if_neg (by omega)) (Ev.now x) : Ev (fun k => impl_big.l0 k x v (((0 : Nat) : Int) - 1)) x)
  | succ n ih =>
    intro x hn hx
    have e : (shr .u64 (IntKind.u64.wrap (v : Int)) (8 * (n : Int))) % 256 = ((v / 256 ^ n % 256 : Nat) : Int) := by
      have h1 : IntKind.u64.wrap (v : Int) = (v : Int) := by
        show (v : Int) % 18446744073709551616 = v
        omega
      rw [h1]
      unfold shr
      have h2 : min (8 * (n : Int)).toNat IntKind.u64.bits = 8 * n := by
        show min (8 * (n : Int)).toNat 64 = 8 * n
        omega
      have h3 : (2 : Int) ^ (8 * n) = ((256 ^ n : Nat) : Int) := by rw [show (256 : Nat) = 2 ^ 8 from rfl, ← Nat.pow_mul]; simp
      rw [h2, h3]
      rfl
    refine Ev.step (fun k => by simp only [impl_big.l0]; rw [show ((n + 1 : Nat) : Int) - 1 = (n : Int) by omega, w64 (by omega) (by omega), w64 (by omega) (by omega), e]) ?_
    refine Ev.pos (by omega) (Ev.pos (by omega) (Ev.pos (by omega) ?_))
    rw [beB_head, show x ++ ((v / 256 ^ n % 256 : Nat) : Int) :: beB n v = (x ++ [((v / 256 ^ n % 256 : Nat) : Int)]) ++ beB n v by simp]
    refine ih (x ++ [((v / 256 ^ n % 256 : Nat) : Int)]) (by omega) ?_
    rw [List.length_append, List.length_singleton]; omega
theorem implBig_ev (x : List Int) (n : Nat) (v : Nat) (hv : v < 9223372036854775808) (hn : n ≤ 8) (hx : x.length ≤ 1000000) : Ev (fun k => impl_big.f k x n v) (x ++ beB n v) := by
  simp only [impl_big.f]
  rw [w64 (by omega) (by omega)]
  exact implBig_l v hv n x hn (by omega)

def sup (g b s l c : Nat) : List Int := beB 8 g ++ beB 1 b ++ beB 4 s ++ beB 4 l ++ beB 4 c ++ List.replicate 35 0 ++ beB 8 g
theorem sup_len (g b s l c : Nat) : (sup g b s l c).length = 64 := by simp [sup, beB_len]
def okS (g b s l c : Int) : Prop := 1 ≤ g ∧ 0 ≤ b ∧ b ≤ 1 ∧ 0 ≤ s ∧ s ≤ 2147483647 ∧ 0 ≤ l ∧ l ≤ 4096 ∧ 0 ≤ c ∧ c ≤ 4294967295
theorem specPad (g b s l c : Nat) (hg : g < 9223372036854775808) (d : Nat) : ∀ (x : List Int), x.length + d = 56 → Ev (fun k => spec_EncodeSuper.l0 k x g b s l c) (x ++ List.replicate d 0 ++ beB 8 g) := by
  induction d with
  | zero =>
    intro x hx
    refine Ev.step (fun k => by simp only [spec_EncodeSuper.l0]; exact if_neg (by omega)) ?_
    refine Ev.bind (specBig_ev 8 g hg (by omega)) (Ev.pos (by rw [beB_len]; omega) ?_)
    simp only [List.replicate_zero, List.append_nil]
    exact Ev.now _
  | succ d ih =>
    intro x hx
    refine Ev.step (fun k => by simp only [spec_EncodeSuper.l0]; rw [if_pos (by omega), Option.bind_some]) ?_
    refine Ev.pos (by simp; omega) ?_
    rw [List.replicate_succ, show x ++ (0 : Int) :: List.replicate d 0 = (x ++ [0]) ++ List.replicate d 0 by simp]
    exact ih _ (by simp; omega)
theorem valid_e (g b s l c : Int) : ∃ v : Bool, spec_l4ValidSuper.f g b s l c = some v ∧ impl_Super_valid.f g b s l c = some v ∧ (v = true → okS g b s l c) := by
  by_cases h : okS g b s l c
  · have ⟨h1, h2, h3, h4, h5, h6, h7, h8, h9⟩ := h
    refine ⟨true, ?_, ?_, fun _ => h⟩
    · simp only [spec_l4ValidSuper.f, spec_l3Stat.f]
      rw [if_pos h1, if_pos h2, if_pos h3, if_pos h4, Option.bind_some, decide_eq_true h5, if_pos rfl, if_pos h6, if_pos h7, if_pos h8, decide_eq_true h9]
    · simp only [impl_Super_valid.f]
      rw [if_pos h1, if_pos (c := s ≥ 0) h4, if_pos h5, if_pos (c := l ≥ 0) h6, if_pos h7, if_pos (c := c ≥ 0) h8, decide_eq_true h9]
      by_cases hb : b = 0
      · rw [if_pos hb]
      · rw [if_neg hb, if_pos (by omega)]
  · refine ⟨false, ?_, ?_, fun h => by cases h⟩
    · simp only [spec_l4ValidSuper.f, spec_l3Stat.f]
      repeat' first
        | (split)
        | rfl
        | (simp only [Option.bind_some])
      all_goals simp_all [okS]
      all_goals omega
    · simp only [impl_Super_valid.f]
      repeat' first
        | (split)
        | rfl
      all_goals simp_all [okS]
      all_goals omega
theorem specEnc_ev (g b s l c : Nat) (h : okS g b s l c) (hv : spec_l4ValidSuper.f g b s l c = some true) (hg : g < 9223372036854775808) : Ev (fun k => spec_EncodeSuper.f k g b s l c) (sup g b s l c) := by
  have ⟨h1, h2, h3, h4, h5, h6, h7, h8, h9⟩ := h
  simp only [spec_EncodeSuper.f]
  refine Ev.bindS hv (Ev.pos rfl ?_)
  refine Ev.bind (specBig_ev 8 g hg (by omega)) ?_
  simp only [Option.bind_some]
  refine Ev.pos (by simp [beB_len]) ?_
  refine Ev.bind (specBig_ev 4 s (by omega) (by omega)) (Ev.pos (by simp [beB_len]) ?_)
  refine Ev.bind (specBig_ev 4 l (by omega) (by omega)) (Ev.pos (by simp [beB_len]) ?_)
  refine Ev.bind (specBig_ev 4 c (by omega) (by omega)) (Ev.pos (by simp [beB_len]) ?_)
  have e : [(b : Int) % 256] = beB 1 b := by simp [beB]
  rw [e]
  exact specPad g b s l c hg 35 _ (by simp [beB_len])
theorem implBlock_ev (g b s l c : Nat) (h : okS g b s l c) (hg : g < 9223372036854775808) : Ev (fun k => impl_Super_block.f k g b s l c) (sup g b s l c) := by
  have ⟨h1, h2, h3, h4, h5, h6, h7, h8, h9⟩ := h
  simp only [impl_Super_block.f]
  refine Ev.bind (a := sup g b s l c) ?_ (Ev.pos (sup_len g b s l c) (Ev.now _))
  refine Ev.bind (implBig_ev [] 8 g hg (by omega) (by simp)) ?_
  refine Ev.bind (implBig_ev _ 1 b (by omega) (by omega) (by simp [beB_len])) ?_
  refine Ev.bind (implBig_ev _ 4 s (by omega) (by omega) (by simp [beB_len])) ?_
  refine Ev.bind (implBig_ev _ 4 l (by omega) (by omega) (by simp [beB_len])) ?_
  refine Ev.bind (implBig_ev _ 4 c (by omega) (by omega) (by simp [beB_len])) ?_
  have e : wrap64 (56 - (((([] : List Int) ++ beB 8 g ++ beB 1 b ++ beB 4 s ++ beB 4 l ++ beB 4 c).length : Nat) : Int)) = 35 := by
    simp only [List.length_append, beB_len, List.length_nil]; exact w64 (by omega) (by omega)
  rw [e]
  refine Ev.pos (by omega) (Ev.pos (by simp [beB_len]) ?_)
  refine Ev.bind (implBig_ev _ 8 g hg (by omega) (by simp [beB_len])) ?_
  exact Ev.now _

theorem eqByteS_l (x : List Int) (hl : x.length ≤ 281474976710656) (d : Nat) : ∀ (i : Nat), i + d = x.length → ∀ k, d < k → laws_eqByteS.l0 k x x i = some true := by
  induction d with
  | zero =>
    intro i hi k hk
    obtain ⟨k, rfl⟩ : ∃ m, k = m + 1 := ⟨k - 1, by omega⟩
    simp only [laws_eqByteS.l0]
    rw [if_neg (by omega)]
  | succ d ih =>
    intro i hi k hk
    obtain ⟨k, rfl⟩ : ∃ m, k = m + 1 := ⟨k - 1, by omega⟩
    simp only [laws_eqByteS.l0]
    rw [if_pos (by omega), if_pos (by omega), if_pos (by omega), if_pos trivial, w64 (by omega) (by omega)]
    exact ih (i + 1) (by omega) k (by omega)
theorem eqByteS_ev (l : List Int) (hl : l.length ≤ 281474976710656) : Ev (fun k => laws_eqByteS.f k l l) true := by
  refine ⟨l.length + 1, fun k hk => ?_⟩
  simp only [laws_eqByteS.f]
  rw [if_pos trivial]
  exact eqByteS_l l hl l.length 0 (by omega) k (by omega)

def markB (a : Int) (l : List Int) : List Int := (List.range l.length).map fun i : Nat => (a + (i : Int)) % 256
theorem markByteS_l (a : Int) (ha : 0 ≤ a) (ha2 : a ≤ 4611686018427387904) (n : Nat) (hl : n ≤ 281474976710656) (d : Nat) : ∀ (i : Nat) (x : List Int), i + d = n → x.length = n → x.take i = (List.range i).map (fun i : Nat => (a + (i : Int)) % 256) → ∀ k, d < k → laws_markByteS.l0 k x (a + i) i = some (a + n, (List.range n).map fun i : Nat => (a + (i : Int)) % 256) := by
  induction d with
  | zero =>
    intro i x hi hx ht k hk
    obtain ⟨k, rfl⟩ : ∃ m, k = m + 1 := ⟨k - 1, by omega⟩
    simp only [laws_markByteS.l0]
    rw [if_neg (by omega)]
    rw [List.take_of_length_le (by omega)] at ht
    obtain rfl : i = n := by omega
    rw [ht]
  | succ d ih =>
    intro i x hi hx ht k hk
    obtain ⟨k, rfl⟩ : ∃ m, k = m + 1 := ⟨k - 1, by omega⟩
    simp only [laws_markByteS.l0]
    rw [if_pos (by omega), if_pos (by omega), w64 (by omega) (by omega), w64 (by omega) (by omega), Int.toNat_natCast]
    have e1 : a + (i : Int) + 1 = a + ((i + 1 : Nat) : Int) := by omega
    have e2 : (i : Int) + 1 = ((i + 1 : Nat) : Int) := by omega
    rw [e1, e2]
    refine ih (i + 1) _ (by omega) (by simpa using hx) ?_ k (by omega)
    rw [List.range_succ, List.map_append, ← ht, List.take_add_one]
    simp [List.take_set_of_le, hx, show i < n by omega]
theorem markByteS_ev (a : Int) (ha : 0 ≤ a) (ha2 : a ≤ 4611686018427387904) (l : List Int) (hl : l.length ≤ 281474976710656) : Ev (fun k => laws_markByteS.f k l a) (a + l.length, markB a l) := by
  refine ⟨l.length + 1, fun k hk => ?_⟩
  simp only [laws_markByteS.f]
  have := markByteS_l a ha ha2 l.length hl l.length 0 l (by omega) rfl (by simp) k (by omega)
  simpa [markB] using this
theorem heldByteS_l (a : Int) (ha : 0 ≤ a) (ha2 : a ≤ 4611686018427387904) (l : List Int) (hl : l.length ≤ 281474976710656) (d : Nat) : ∀ (i : Nat), i + d = l.length → ∀ k, d < k → laws_heldByteS.l0 k (markB a l) (a + i) i = some (a + l.length) := by
  have hml : (markB a l).length = l.length := by simp [markB]
  induction d with
  | zero =>
    intro i hi k hk
    obtain ⟨k, rfl⟩ : ∃ m, k = m + 1 := ⟨k - 1, by omega⟩
    simp only [laws_heldByteS.l0]
    rw [if_neg (by omega)]
    obtain rfl : i = l.length := by omega
    rfl
  | succ d ih =>
    intro i hi k hk
    obtain ⟨k, rfl⟩ : ∃ m, k = m + 1 := ⟨k - 1, by omega⟩
    simp only [laws_heldByteS.l0]
    have hrd : rd (markB a l) i = (a + (i : Int)) % 256 := by simp [rd, markB, show i < l.length by omega]
    rw [if_pos (by omega), if_pos (by omega), if_pos hrd, w64 (by omega) (by omega), w64 (by omega) (by omega)]
    have e1 : a + (i : Int) + 1 = a + ((i + 1 : Nat) : Int) := by omega
    have e2 : (i : Int) + 1 = ((i + 1 : Nat) : Int) := by omega
    rw [e1, e2]
    exact ih (i + 1) (by omega) k (by omega)
theorem heldByteS_ev (a : Int) (ha : 0 ≤ a) (ha2 : a ≤ 4611686018427387904) (l : List Int) (hl : l.length ≤ 281474976710656) : Ev (fun k => laws_heldByteS.f k (markB a l) a) (a + l.length) := by
  refine ⟨l.length + 1, fun k hk => ?_⟩
  simp only [laws_heldByteS.f]
  have := heldByteS_l a ha ha2 l hl l.length 0 (by omega) k (by omega)
  simpa using this


theorem FnExactEncodeSuper : laws_FnExactEncodeSuper.Pure := by
  intro g b s l c wg _ _ _ _
  have hg : g < 9223372036854775808 := by
    simp [Lit.wf, IntKind.min, IntKind.max, IntKind.signed, IntKind.bits] at wg; omega
  obtain ⟨v, e1, e2, hv⟩ := valid_e g b s l c
  have key : ∃ r : List Int, r.length ≤ 64 ∧ Ev (fun k => spec_EncodeSuper.f k g b s l c) r ∧ Ev (fun k => impl_EncodeSuper.f k g b s l c) r := by
    cases v with
    | false =>
      refine ⟨[], by simp, ?_, ?_⟩
      · simp only [spec_EncodeSuper.f]
        exact Ev.bindS e1 (Ev.neg (by simp) (Ev.now _))
      · simp only [impl_EncodeSuper.f]
        exact Ev.bindS e2 (Ev.neg (by simp) (Ev.now _))
    | true =>
      have h := hv rfl
      have ⟨h1, h2, h3, h4, h5, h6, h7, h8, h9⟩ := h
      obtain ⟨g, rfl⟩ := Int.eq_ofNat_of_zero_le (show 0 ≤ g by omega)
      obtain ⟨b, rfl⟩ := Int.eq_ofNat_of_zero_le h2
      obtain ⟨s, rfl⟩ := Int.eq_ofNat_of_zero_le h4
      obtain ⟨l, rfl⟩ := Int.eq_ofNat_of_zero_le h6
      obtain ⟨c, rfl⟩ := Int.eq_ofNat_of_zero_le h8
      refine ⟨sup g b s l c, by rw [sup_len]; omega, specEnc_ev g b s l c h e1 (by omega), ?_⟩
      simp only [impl_EncodeSuper.f]
      exact Ev.bindS e2 (Ev.pos rfl (Ev.bind (implBlock_ev g b s l c h (by omega)) (Ev.now _)))
  obtain ⟨r, hr, es, ei⟩ := key
  apply Ev.rounds
  simp only [laws_FnExactEncodeSuper.f, laws_toSuper.f, Option.bind_some]
  refine Ev.bind es (Ev.bind ei (Ev.bind (eqByteS_ev r (by omega)) (Ev.pos rfl ?_)))
  refine Ev.bind (markByteS_ev 1 (by omega) (by omega) r (by omega)) (Ev.bind (heldByteS_ev 1 (by omega) (by omega) r (by omega)) ?_)
  refine Ev.neg (by omega) (Ev.pos rfl ?_)
  exact Ev.bind ei (Ev.bind (eqByteS_ev r (by omega)) (Ev.pos rfl (Ev.now _)))

end Go.Proofs.Ytmjfoickgcapmaa.Pure
