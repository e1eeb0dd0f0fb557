/- What is proved: the law FnTornSuper returns true. Conditions: none. -/
import Derived.Test.YtejecjjimggjeaaGFnTornSuperx7
import Derived.Lib.Bytes
namespace Go.Proofs.Ytejecjjimggjeaa.Pure
open Go.RowKit Go.Proofs.Ytejecjjimggjeaa.GFnTornSuper Go.Proofs.YtejecjjimggjeaaW.PrintWords Go.Proofs.YtejecjjimggjeaaW.PrintLast Go.Proofs.YtejecjjimggjeaaW.PrintMore
set_option linter.unusedVariables false
set_option linter.unusedSimpArgs false

theorem w64 {x : Int} (h0 : -9223372036854775808 ≤ x) (h1 : x < 9223372036854775808) : wrap64 x = x := by unfold wrap64; omega
theorem u8_wf {x : Int} (h : (Lit.int .u8 x).wf = true) : 0 ≤ x ∧ x ≤ 255 := by
  simp [Lit.wf, IntKind.min, IntKind.max, IntKind.signed, IntKind.bits] at h
  omega
theorem Ev.pos {α : Type} {c : Prop} [Decidable c] {f g : Nat → Option α} {r : α} (hc : c) (h : Ev f r) : Ev (fun n => if c then f n else g n) r := Ev.congr (fun _ => if_pos hc) h
theorem Ev.neg {α : Type} {c : Prop} [Decidable c] {f g : Nat → Option α} {r : α} (hc : ¬c) (h : Ev g r) : Ev (fun n => if c then f n else g n) r := Ev.congr (fun _ => if_neg hc) h
theorem Ev.bindS {α β : Type} {g : Option α} {f : Nat → α → Option β} {a : α} {r : β} (h : g = some a) (k : Ev (fun n => f n a) r) : Ev (fun n => g.bind (f n)) r := Ev.congr (fun _ => by rw [h]; rfl) k
def beB : Nat → Nat → List Int
  | 0, _ => []
  | n + 1, v => beB n (v / 256) ++ [((v % 256 : Nat) : Int)]
theorem beB_len (n : Nat) : ∀ v, (beB n v).length = n := by
  induction n with
  | zero => intro v; rfl
  | succ n ih => intro v; simp [beB, ih]
theorem beB_head (n : Nat) : ∀ v, beB (n + 1) v = ((v / 256 ^ n % 256 : Nat) : Int) :: beB n v := by
  induction n with
  | zero => intro v; simp [beB]
  | succ n ih =>
    intro v
    rw [show beB (n + 1 + 1) v = beB (n + 1) (v / 256) ++ [((v % 256 : Nat) : Int)] from rfl, ih, show beB (n + 1) v = beB n (v / 256) ++ [((v % 256 : Nat) : Int)] from rfl, Nat.div_div_eq_div_mul, Nat.pow_succ, Nat.mul_comm 256]
    rfl
theorem specBig_ev (n : Nat) : ∀ (v : Nat), v < 9223372036854775808 → n ≤ 1000 → Ev (fun k => spec_l4Big.f k v n) (beB n v) := by
  induction n with
  | zero => intro v _ _; exact Ev.step (fun k => by simp only [spec_l4Big.f]; exact if_pos (by rfl)) (Ev.now _)
  | succ n ih =>
    intro v hv hn
    refine Ev.step (fun k => by simp only [spec_l4Big.f]; rw [if_neg (by omega), show Int.tdiv (v : Int) 256 = ((v / 256 : Nat) : Int) from rfl, show Int.tmod (v : Int) 256 = ((v % 256 : Nat) : Int) from rfl, w64 (by omega) (by omega), w64 (by omega) (by omega), show ((n + 1 : Nat) : Int) - 1 = (n : Int) by omega]) ?_
    refine Ev.bind (ih (v / 256) (by omega) (by omega)) (Ev.pos (by rw [beB_len]; omega) ?_)
    rw [show ((v % 256 : Nat) : Int) % 256 = ((v % 256 : Nat) : Int) by omega]
    exact Ev.now _
theorem implBig_l (v : Nat) (hv : v < 9223372036854775808) (n : Nat) : ∀ (x : List Int), n ≤ 8 → x.length + n ≤ 1000100 → Ev (fun k => impl_big.l0 k x v ((n : Int) - 1)) (x ++ beB n v) := by
  induction n with
  | zero => intro x _ _; simpa [beB] using (Ev.step (fun k => by simp only [impl_big.l0]; exact if_neg (by omega)) (Ev.now x) : Ev (fun k => impl_big.l0 k x v (((0 : Nat) : Int) - 1)) x)
  | succ n ih =>
    intro x hn hx
    have e : (shr .u64 (IntKind.u64.wrap (v : Int)) (8 * (n : Int))) % 256 = ((v / 256 ^ n % 256 : Nat) : Int) := by
      have h1 : IntKind.u64.wrap (v : Int) = (v : Int) := by
        show (v : Int) % 18446744073709551616 = v
        omega
      rw [h1]
      unfold shr
      have h2 : min (8 * (n : Int)).toNat IntKind.u64.bits = 8 * n := by
        show min (8 * (n : Int)).toNat 64 = 8 * n
        omega
      have h3 : (2 : Int) ^ (8 * n) = ((256 ^ n : Nat) : Int) := by rw [show (256 : Nat) = 2 ^ 8 from rfl, ← Nat.pow_mul]; simp
      rw [h2, h3]
      rfl
    refine Ev.step (fun k => by simp only [impl_big.l0]; rw [show ((n + 1 : Nat) : Int) - 1 = (n : Int) by omega, w64 (by omega) (by omega), w64 (by omega) (by omega), e]) ?_
    refine Ev.pos (by omega) (Ev.pos (by omega) (Ev.pos (by omega) ?_))
    rw [beB_head, show x ++ ((v / 256 ^ n % 256 : Nat) : Int) :: beB n v = (x ++ [((v / 256 ^ n % 256 : Nat) : Int)]) ++ beB n v by simp]
    refine ih (x ++ [((v / 256 ^ n % 256 : Nat) : Int)]) (by omega) ?_
    rw [List.length_append, List.length_singleton]; omega
theorem implBig_ev (x : List Int) (n : Nat) (v : Nat) (hv : v < 9223372036854775808) (hn : n ≤ 8) (hx : x.length ≤ 1000000) : Ev (fun k => impl_big.f k x n v) (x ++ beB n v) := by
  simp only [impl_big.f]
  rw [w64 (by omega) (by omega)]
  exact implBig_l v hv n x hn (by omega)

def sup (g b s l c : Nat) : List Int := beB 8 g ++ beB 1 b ++ beB 4 s ++ beB 4 l ++ beB 4 c ++ List.replicate 35 0 ++ beB 8 g
theorem sup_len (g b s l c : Nat) : (sup g b s l c).length = 64 := by simp [sup, beB_len]
def okS (g b s l c : Int) : Prop := 1 ≤ g ∧ 0 ≤ b ∧ b ≤ 1 ∧ 0 ≤ s ∧ s ≤ 2147483647 ∧ 0 ≤ l ∧ l ≤ 4096 ∧ 0 ≤ c ∧ c ≤ 4294967295
theorem specPad (g b s l c : Nat) (hg : g < 9223372036854775808) (d : Nat) : ∀ (x : List Int), x.length + d = 56 → Ev (fun k => spec_EncodeSuper.l0 k x g b s l c) (x ++ List.replicate d 0 ++ beB 8 g) := by
  induction d with
  | zero =>
    intro x hx
    refine Ev.step (fun k => by simp only [spec_EncodeSuper.l0]; exact if_neg (by omega)) ?_
    refine Ev.bind (specBig_ev 8 g hg (by omega)) (Ev.pos (by rw [beB_len]; omega) ?_)
    simp only [List.replicate_zero, List.append_nil]
    exact Ev.now _
  | succ d ih =>
    intro x hx
    refine Ev.step (fun k => by simp only [spec_EncodeSuper.l0]; rw [if_pos (by omega), Option.bind_some]) ?_
    refine Ev.pos (by simp; omega) ?_
    rw [List.replicate_succ, show x ++ (0 : Int) :: List.replicate d 0 = (x ++ [0]) ++ List.replicate d 0 by simp]
    exact ih _ (by simp; omega)
theorem specEnc_ev (g b s l c : Nat) (h : okS g b s l c) (hv : spec_l4ValidSuper.f g b s l c = some true) (hg : g < 9223372036854775808) : Ev (fun k => spec_EncodeSuper.f k g b s l c) (sup g b s l c) := by
  have ⟨h1, h2, h3, h4, h5, h6, h7, h8, h9⟩ := h
  simp only [spec_EncodeSuper.f]
  refine Ev.bindS hv (Ev.pos rfl ?_)
  refine Ev.bind (specBig_ev 8 g hg (by omega)) ?_
  simp only [Option.bind_some]
  refine Ev.pos (by simp [beB_len]) ?_
  refine Ev.bind (specBig_ev 4 s (by omega) (by omega)) (Ev.pos (by simp [beB_len]) ?_)
  refine Ev.bind (specBig_ev 4 l (by omega) (by omega)) (Ev.pos (by simp [beB_len]) ?_)
  refine Ev.bind (specBig_ev 4 c (by omega) (by omega)) (Ev.pos (by simp [beB_len]) ?_)
  have e : [(b : Int) % 256] = beB 1 b := by simp [beB]
  rw [e]
  exact specPad g b s l c hg 35 _ (by simp [beB_len])
theorem implBlock_ev (g b s l c : Nat) (h : okS g b s l c) (hg : g < 9223372036854775808) : Ev (fun k => impl_Super_block.f k g b s l c) (sup g b s l c) := by
  have ⟨h1, h2, h3, h4, h5, h6, h7, h8, h9⟩ := h
  simp only [impl_Super_block.f]
  refine Ev.bind (a := sup g b s l c) ?_ (Ev.pos (sup_len g b s l c) (Ev.now _))
  refine Ev.bind (implBig_ev [] 8 g hg (by omega) (by simp)) ?_
  refine Ev.bind (implBig_ev _ 1 b (by omega) (by omega) (by simp [beB_len])) ?_
  refine Ev.bind (implBig_ev _ 4 s (by omega) (by omega) (by simp [beB_len])) ?_
  refine Ev.bind (implBig_ev _ 4 l (by omega) (by omega) (by simp [beB_len])) ?_
  refine Ev.bind (implBig_ev _ 4 c (by omega) (by omega) (by simp [beB_len])) ?_
  have e : wrap64 (56 - (((([] : List Int) ++ beB 8 g ++ beB 1 b ++ beB 4 s ++ beB 4 l ++ beB 4 c).length : Nat) : Int)) = 35 := by
    simp only [List.length_append, beB_len, List.length_nil]; exact w64 (by omega) (by omega)
  rw [e]
  refine Ev.pos (by omega) (Ev.pos (by simp [beB_len]) ?_)
  refine Ev.bind (implBig_ev _ 8 g hg (by omega) (by simp [beB_len])) ?_
  exact Ev.now _

theorem valid_e (g b s l c : Int) : ∃ v : Bool, spec_l4ValidSuper.f g b s l c = some v ∧ impl_Super_valid.f g b s l c = some v ∧ (v = true → okS g b s l c) := by
  by_cases h : okS g b s l c
  · have ⟨h1, h2, h3, h4, h5, h6, h7, h8, h9⟩ := h
    refine ⟨true, ?_, ?_, fun _ => h⟩
    · simp only [spec_l4ValidSuper.f, spec_l3Stat.f]
      rw [if_pos h1, if_pos h2, if_pos h3, if_pos h4, Option.bind_some, decide_eq_true h5, if_pos rfl, if_pos h6, if_pos h7, if_pos h8, decide_eq_true h9]
    · simp only [impl_Super_valid.f]
      rw [if_pos h1, if_pos (c := s ≥ 0) h4, if_pos h5, if_pos (c := l ≥ 0) h6, if_pos h7, if_pos (c := c ≥ 0) h8, decide_eq_true h9]
      by_cases hb : b = 0
      · rw [if_pos hb]
      · rw [if_neg hb, if_pos (by omega)]
  · refine ⟨false, ?_, ?_, fun h => by cases h⟩
    · simp only [spec_l4ValidSuper.f, spec_l3Stat.f]
      repeat' first
        | (split)
        | rfl
        | (simp only [Option.bind_some])
      all_goals simp_all [okS]
      all_goals omega
    · simp only [impl_Super_valid.f]
      repeat' first
        | (split)
        | rfl
      all_goals simp_all [okS]
      all_goals omega
def okB (l : List Int) : Prop := ∀ x ∈ l, 0 ≤ x ∧ x ≤ 255
theorem okB_take {l : List Int} (h : okB l) (n : Nat) : okB (l.take n) := fun x hx => h x (List.mem_of_mem_take hx)
theorem okB_drop {l : List Int} (h : okB l) (n : Nat) : okB (l.drop n) := fun x hx => h x (List.mem_of_mem_drop hx)
def beF (v : Nat) (l : List Int) : Nat := l.foldl (fun v b => v * 256 + b.toNat) v
theorem numStep_e (v : Nat) (b : Int) (hv : v < 72057594037927936) (h0 : 0 ≤ b) (h1 : b ≤ 255) : numStep (v : Int) b = ((v * 256 + b.toNat : Nat) : Int) := by
  obtain ⟨c, rfl⟩ := Int.eq_ofNat_of_zero_le h0
  have e1 : IntKind.u64.wrap ((v : Int) * 256) = ((v * 256 : Nat) : Int) := by
    show ((v : Int) * 256) % 18446744073709551616 = _
    omega
  have e2 : IntKind.u64.wrap (c : Int) = (c : Int) := by
    show (c : Int) % 18446744073709551616 = _
    omega
  have e3 : v * 256 ||| c = v * 256 + c := by
    have := Nat.two_pow_add_eq_or_of_lt (i := 8) (b := c) (by omega) v
    rw [show (2 : Nat) ^ 8 = 256 from rfl, Nat.mul_comm 256 v] at this
    exact this.symm
  unfold numStep
  rw [e1, e2]
  unfold bits
  have e4 : ((BitVec.ofInt IntKind.u64.bits ((v * 256 : Nat) : Int)) ||| (BitVec.ofInt IntKind.u64.bits (c : Int))).toNat = v * 256 + c := by
    rw [BitVec.toNat_or, BitVec.ofInt_natCast, BitVec.ofInt_natCast, BitVec.toNat_ofNat, BitVec.toNat_ofNat]
    show (v * 256 % 18446744073709551616) ||| (c % 18446744073709551616) = _
    rw [Nat.mod_eq_of_lt (by omega), Nat.mod_eq_of_lt (by omega), e3]
  simp only [e4]
  show (((v * 256 + c : Nat) : Int)) % 18446744073709551616 = _
  rw [Int.toNat_natCast]
  omega
theorem numStep_f : ∀ (l : List Int) (v : Nat), okB l → (v + 1) * 256 ^ l.length ≤ 18446744073709551616 → l.foldl numStep (v : Int) = ((beF v l : Nat) : Int) := by
  intro l
  induction l with
  | nil => intro v _ _; rfl
  | cons b l ih =>
    intro v h hv
    have hb := h b (by simp)
    have hp : 1 ≤ 256 ^ l.length := Nat.one_le_pow _ _ (by omega)
    rw [List.length_cons, Nat.pow_succ, Nat.mul_comm (256 ^ l.length) 256, ← Nat.mul_assoc] at hv
    have hv1 : (v + 1) * 256 * 1 ≤ (v + 1) * 256 * 256 ^ l.length := Nat.mul_le_mul_left _ hp
    have h2 : (v * 256 + b.toNat + 1) * 256 ^ l.length ≤ (v + 1) * 256 * 256 ^ l.length := Nat.mul_le_mul_right _ (by omega)
    rw [List.foldl_cons, numStep_e v b (by omega) hb.1 hb.2, ih _ (fun x hx => h x (by simp [hx])) (by omega)]
    rfl
theorem Ev.uniq {α : Type} {f : Nat → Option α} {a b : α} (h : Ev f a) (k : Ev f b) : a = b := by
  obtain ⟨K, h⟩ := h
  obtain ⟨M, k⟩ := k
  have h1 := h (max K M) (by omega)
  rw [k (max K M) (by omega)] at h1
  exact (Option.some.inj h1).symm
theorem okB_be : ∀ (n v : Nat), okB (beB n v) := by
  intro n
  induction n with
  | zero => intro v x hx; cases hx
  | succ n ih =>
    intro v x hx
    simp only [beB, List.mem_append, List.mem_singleton] at hx
    rcases hx with hx | rfl
    · exact ih _ x hx
    · omega
theorem okB_app {a b : List Int} (h : okB a) (k : okB b) : okB (a ++ b) := fun x hx => (List.mem_append.mp hx).elim (h x) (k x)
theorem okB_sup (g b s l c : Nat) : okB (sup g b s l c) := by
  unfold sup
  exact okB_app (okB_app (okB_app (okB_app (okB_app (okB_app (okB_be _ _) (okB_be _ _)) (okB_be _ _)) (okB_be _ _)) (okB_be _ _)) (fun x hx => by rw [List.eq_of_mem_replicate hx]; omega)) (okB_be _ _)
theorem beF_be : ∀ (n v : Nat), v < 256 ^ n → beF 0 (beB n v) = v := by
  intro n
  induction n with
  | zero => intro v hv; simp at hv; subst hv; rfl
  | succ n ih =>
    intro v hv
    have h1 := ih (v / 256) (by rw [Nat.pow_succ] at hv; omega)
    simp only [beF] at h1 ⊢
    rw [show beB (n + 1) v = beB n (v / 256) ++ [((v % 256 : Nat) : Int)] from rfl, List.foldl_append, h1]
    simp only [List.foldl_cons, List.foldl_nil, Int.toNat_natCast]
    omega
theorem be_inj (n v w : Nat) (hv : v < 256 ^ n) (hw : w < 256 ^ n) (h : beB n v = beB n w) : v = w := by rw [← beF_be n v hv, ← beF_be n w hw, h]
theorem rnum_be (n v : Nat) (hn : n ≤ 8) (hv : v < 256 ^ n) (h63 : v < 9223372036854775808) : rnum (beB n v) = (v : Int) := by
  have hp : 256 ^ (beB n v).length ≤ 256 ^ 8 := Nat.pow_le_pow_right (by omega) (by rw [beB_len]; exact hn)
  have h256 : (256 : Nat) ^ 8 = 18446744073709551616 := by decide
  have h2 := numStep_f (beB n v) 0 (okB_be n v) (by omega)
  unfold rnum
  rw [show (0 : Int) = ((0 : Nat) : Int) from rfl, h2, beF_be n v hv]
  exact w64 (by omega) (by omega)
theorem sup_parts (g b s l c : Nat) : (sup g b s l c).take 8 = beB 8 g ∧ ((sup g b s l c).drop 8).take 1 = beB 1 b ∧ ((sup g b s l c).drop 9).take 4 = beB 4 s ∧ ((sup g b s l c).drop 13).take 4 = beB 4 l ∧ ((sup g b s l c).drop 17).take 4 = beB 4 c ∧ (sup g b s l c).drop 56 = beB 8 g := by
  have dz : ∀ n v k, n ≤ k → (beB n v).drop k = [] := fun n v k h => List.drop_of_length_le (by rw [beB_len]; exact h)
  unfold sup
  refine ⟨?_, ?_, ?_, ?_, ?_, ?_⟩ <;> simp [List.take_append, List.drop_append, beB_len, dz 8 g 13 (by omega), dz 8 g 17 (by omega), dz 1 b 5 (by omega), dz 1 b 9 (by omega), dz 4 s 8 (by omega), dz 8 g 56 (by omega), dz 1 b 48 (by omega), dz 4 s 47 (by omega), dz 4 l 43 (by omega), dz 4 c 39 (by omega)]
theorem dec_sup (g b s l c : Nat) (h : okS g b s l c) (hg : g < 9223372036854775808) : Ev (fun k => impl_DecodeSuper.f k (sup g b s l c)) (true, (g : Int), (b : Int), (s : Int), (l : Int), (c : Int)) := by
  have ⟨h1, h2, h3, h4, h5, h6, h7, h8, h9⟩ := h
  obtain ⟨p1, p2, p3, p4, p5, _⟩ := sup_parts g b s l c
  obtain ⟨v, _, e2, _⟩ := valid_e (g : Int) b s l c
  have hv : v = true := by
    have : impl_Super_valid.f (g : Int) b s l c = some true := by
      simp only [impl_Super_valid.f]
      rw [if_pos h1, if_pos (c := (s : Int) ≥ 0) h4, if_pos h5, if_pos (c := (l : Int) ≥ 0) h6, if_pos h7, if_pos (c := (c : Int) ≥ 0) h8, decide_eq_true h9]
      by_cases hb : (b : Int) = 0
      · rw [if_pos hb]
      · rw [if_neg hb, if_pos (by omega)]
    rw [this] at e2
    exact (Option.some.inj e2).symm
  subst hv
  simp only [impl_DecodeSuper.f, p1, p2, p3, p4, p5]
  rw [rnum_be 8 g (by omega) (by rw [show (256 : Nat) ^ 8 = 18446744073709551616 by decide]; omega) hg, rnum_be 1 b (by omega) (by omega) (by omega), rnum_be 4 s (by omega) (by rw [show (256 : Nat) ^ 4 = 4294967296 by decide]; omega) (by omega), rnum_be 4 l (by omega) (by rw [show (256 : Nat) ^ 4 = 4294967296 by decide]; omega) (by omega), rnum_be 4 c (by omega) (by rw [show (256 : Nat) ^ 4 = 4294967296 by decide]; omega) (by omega)]
  exact Ev.pos (by rw [sup_len]; rfl) (Ev.bindS e2 (Ev.pos rfl (Ev.bind (implBlock_ev g b s l c h hg) (Ev.pos rfl (Ev.now _)))))
theorem rnum_lt (l : List Int) : rnum l < 9223372036854775808 := by unfold rnum wrap64; omega
theorem dec_some (m : List Int) : ∃ r : Bool × Int × Int × Int × Int × Int, Ev (fun k => impl_DecodeSuper.f k m) r ∧ (r.1 = true → ∃ g b s l c : Nat, okS g b s l c ∧ g < 9223372036854775808 ∧ r = (true, (g : Int), (b : Int), (s : Int), (l : Int), (c : Int)) ∧ m = sup g b s l c) := by
  simp only [impl_DecodeSuper.f]
  by_cases hl : (m.length : Int) = 64
  · generalize hg0 : rnum (m.take 8) = g
    generalize rnum ((m.drop 8).take 1) = b
    generalize rnum ((m.drop 9).take 4) = s
    generalize rnum ((m.drop 13).take 4) = l
    generalize rnum ((m.drop 17).take 4) = c
    have hg : g < 9223372036854775808 := by rw [← hg0]; exact rnum_lt _
    obtain ⟨v, _, e2, hv⟩ := valid_e g b s l c
    cases v with
    | false => exact ⟨_, Ev.pos hl (Ev.bindS e2 (Ev.neg (by decide) (Ev.now _))), fun h => by cases h⟩
    | true =>
      have h := hv rfl
      have ⟨h1, h2, h3, h4, h5, h6, h7, h8, h9⟩ := h
      obtain ⟨g, rfl⟩ := Int.eq_ofNat_of_zero_le (show 0 ≤ g by omega)
      obtain ⟨b, rfl⟩ := Int.eq_ofNat_of_zero_le h2
      obtain ⟨s, rfl⟩ := Int.eq_ofNat_of_zero_le h4
      obtain ⟨l, rfl⟩ := Int.eq_ofNat_of_zero_le h6
      obtain ⟨c, rfl⟩ := Int.eq_ofNat_of_zero_le h8
      have ei := implBlock_ev g b s l c h (by omega)
      by_cases e : sup g b s l c = m
      · exact ⟨_, Ev.pos hl (Ev.bindS e2 (Ev.pos rfl (Ev.bind ei (Ev.pos e (Ev.now _))))), fun _ => ⟨g, b, s, l, c, h, by omega, rfl, e.symm⟩⟩
      · exact ⟨_, Ev.pos hl (Ev.bindS e2 (Ev.pos rfl (Ev.bind ei (Ev.neg e (Ev.now _))))), fun h => by cases h⟩
  · exact ⟨_, Ev.neg hl (Ev.now _), fun h => by cases h⟩
theorem sup_inj {g b s l c g2 b2 s2 l2 c2 : Nat} (h : okS g b s l c) (hg : g < 9223372036854775808) (h2 : okS g2 b2 s2 l2 c2) (hg2 : g2 < 9223372036854775808) (e : sup g b s l c = sup g2 b2 s2 l2 c2) : g = g2 ∧ b = b2 ∧ s = s2 ∧ l = l2 ∧ c = c2 := by
  have h1 := dec_sup g b s l c h hg
  rw [e] at h1
  have := Ev.uniq h1 (dec_sup g2 b2 s2 l2 c2 h2 hg2)
  simp only [Prod.mk.injEq, true_and] at this
  omega
/-- A block that was torn between two images of different generations is none, or one of the two. -/
theorem sup_mix {g b s l c g1 b1 s1 l1 c1 g2 b2 s2 l2 c2 : Nat} (h : okS g b s l c) (hg : g < 9223372036854775808) (h1 : okS g1 b1 s1 l1 c1) (hg1 : g1 < 9223372036854775808) (h2 : okS g2 b2 s2 l2 c2) (hg2 : g2 < 9223372036854775808) (hne : g1 ≠ g2) (n : Nat) (hn : n ≤ 64)
    (e : (sup g2 b2 s2 l2 c2).take n ++ (sup g1 b1 s1 l1 c1).drop n = sup g b s l c) : (g = g1 ∧ b = b1 ∧ s = s1 ∧ l = l1 ∧ c = c1) ∨ (g = g2 ∧ b = b2 ∧ s = s2 ∧ l = l2 ∧ c = c2) := by
  have p8 : (256 : Nat) ^ 8 = 18446744073709551616 := by decide
  obtain ⟨a1, _, _, _, _, a2⟩ := sup_parts g b s l c
  obtain ⟨o1, _, _, _, _, o2⟩ := sup_parts g1 b1 s1 l1 c1
  obtain ⟨n1, _, _, _, _, n2⟩ := sup_parts g2 b2 s2 l2 c2
  have lo := sup_len g1 b1 s1 l1 c1
  have ln := sup_len g2 b2 s2 l2 c2
  have inj := fun (x y : Nat) (hx : x < 9223372036854775808) (hy : y < 9223372036854775808) (hh : beB 8 x = beB 8 y) => be_inj 8 x y (by omega) (by omega) hh
  generalize ho : sup g1 b1 s1 l1 c1 = o at *
  generalize hw : sup g2 b2 s2 l2 c2 = w at *
  generalize hm : sup g b s l c = m at *
  have lt : (w.take n).length = n := by rw [List.length_take]; omega
  have dr : ∀ k, n ≤ k → m.drop k = o.drop k := fun k hk => by rw [← e, List.drop_append, lt, List.drop_of_length_le (by omega), List.nil_append, List.drop_drop]; congr 1; omega
  have tk : ∀ k, k ≤ n → m.take k = w.take k := fun k hk => by rw [← e, List.take_append, lt, List.take_take, show min k n = k by omega, show k - n = 0 by omega, List.take_zero, List.append_nil]
  by_cases c56 : n ≤ 56
  · have eg : g = g1 := inj g g1 hg hg1 (by rw [← a2, ← o2, dr 56 c56])
    have c8 : n < 8 := by
      refine Nat.lt_of_not_le (fun h8 => hne ?_)
      rw [← eg]
      exact inj g g2 hg hg2 (by rw [← a1, ← n1, tk 8 h8])
    have em : m = o := by rw [← List.take_append_drop 8 m, ← List.take_append_drop 8 o, dr 8 (by omega), a1, o1, eg]
    left
    exact sup_inj h hg h1 hg1 (by rw [hm, ho, em])
  · have eg : g = g2 := inj g g2 hg hg2 (by rw [← a1, ← n1, tk 8 (by omega)])
    have em : m = w := by rw [← List.take_append_drop 56 m, ← List.take_append_drop 56 w, tk 56 (by omega), a2, n2, eg]
    right
    exact sup_inj h hg h2 hg2 (by rw [hm, hw, em])
/-- The drawing state: bytes, a place in them, a number. -/
def StOk (c : List Int) (a m : Int) : Prop := okB c ∧ c.length ≤ 4000 ∧ 0 ≤ a ∧ a ≤ c.length ∧ 0 ≤ m ∧ m < 1000003
theorem next_e {c : List Int} {a m : Int} (h : StOk c a m) (z n : Int) (h1 : n < 9223372036854775808) : ∃ r a' m', spec_l1Next.f c a m z n = some (r, a', m', z) ∧ StOk c a' m' ∧ 0 ≤ r ∧ (1 ≤ n → r < n) := by
  obtain ⟨hc, hl, ha, hal, hm, hm2⟩ := h
  unfold spec_l1Next.f
  by_cases c1 : n ≤ 1
  · rw [if_pos c1]; exact ⟨0, a, m, rfl, ⟨hc, hl, ha, hal, hm, hm2⟩, by omega, by omega⟩
  rw [if_neg c1]
  have hmix : wrap64 ((wrap64 (m * 1103)) + 12347) = m * 1103 + 12347 := by rw [w64 (x := m * 1103) (by omega) (by omega), w64 (by omega) (by omega)]
  have ht : Int.tmod (m * 1103 + 12347) 1000003 = (m * 1103 + 12347) % 1000003 := Int.tmod_eq_emod_of_nonneg (by omega)
  have hd : Int.tdiv ((m * 1103 + 12347) % 1000003) 3 = ((m * 1103 + 12347) % 1000003) / 3 := Int.tdiv_eq_ediv_of_nonneg (by omega)
  have key : (if n = 0 then (none : Option (Int × Int × Int × Int)) else (some (Int.tmod (wrap64 (Int.tdiv (Int.tmod (wrap64 ((wrap64 (m * 1103)) + 12347)) 1000003) 3)) n, a, Int.tmod (wrap64 ((wrap64 (m * 1103)) + 12347)) 1000003, z))) = some (((m * 1103 + 12347) % 1000003 / 3) % n, a, (m * 1103 + 12347) % 1000003, z) := by
    rw [if_neg (by omega), hmix, ht, hd, w64 (by omega) (by omega), Int.tmod_eq_emod_of_nonneg (by omega)]
  have ok2 : StOk c a ((m * 1103 + 12347) % 1000003) := ⟨hc, hl, ha, hal, by omega, by omega⟩
  have r0 : 0 ≤ ((m * 1103 + 12347) % 1000003 / 3) % n := Int.emod_nonneg _ (by omega)
  have r1 : ((m * 1103 + 12347) % 1000003 / 3) % n < n := Int.emod_lt_of_pos _ (by omega)
  by_cases c2 : a < (c.length : Int)
  · rw [if_pos c2]
    by_cases c3 : n ≤ 256
    · rw [if_pos c3, if_pos ha, if_neg (by omega)]
      have hb : 0 ≤ rd c a ∧ rd c a ≤ 255 := by
        have hi : a.toNat < c.length := by omega
        have e : rd c a = c[a.toNat] := by simp [rd, hi]
        rw [e]; exact hc _ (List.getElem_mem hi)
      refine ⟨_, _, _, rfl, ⟨hc, hl, by rw [w64 (by omega) (by omega)]; omega, by rw [w64 (by omega) (by omega)]; omega, hm, hm2⟩, ?_, fun _ => ?_⟩
      · rw [w64 (by omega) (by omega), Int.tmod_eq_emod_of_nonneg hb.1]; exact Int.emod_nonneg _ (by omega)
      · rw [w64 (by omega) (by omega), Int.tmod_eq_emod_of_nonneg hb.1]; exact Int.emod_lt_of_pos _ (by omega)
    · rw [if_neg c3, key]; exact ⟨_, _, _, rfl, ok2, r0, fun _ => r1⟩
  · rw [if_neg c2, key]; exact ⟨_, _, _, rfl, ok2, r0, fun _ => r1⟩
theorem src_l1 (c : List Int) (hc : okB c) (hl : c.length ≤ 4000) (a z : Int) (d : Nat) : ∀ (i : Nat) (m : Int), i + d = c.length → 0 ≤ m → m < 1000003 → ∃ m' z', Ev (fun k => spec_l1Source.l1 k i c a m z) (c, a, m', z') ∧ 0 ≤ m' ∧ m' < 1000003 ∧ 1 ≤ z' ∧ z' ≤ 7 := by
  induction d with
  | zero =>
    intro i m hi h0 h1
    have hs : wrap64 (1 + (wrap64 ((c.length : Int) / 50))) = 1 + (c.length : Int) / 50 := by rw [w64 (x := (c.length : Int) / 50) (by omega) (by omega), w64 (by omega) (by omega)]
    by_cases h7 : 1 + (c.length : Int) / 50 > 7
    · refine ⟨m, 7, Ev.step (fun k => by simp only [spec_l1Source.l1]; rw [if_neg (by omega), hs, if_pos h7]) (Ev.now _), h0, h1, by omega, by omega⟩
    · refine ⟨m, 1 + (c.length : Int) / 50, Ev.step (fun k => by simp only [spec_l1Source.l1]; rw [if_neg (by omega), hs, if_neg h7]) (Ev.now _), h0, h1, by omega, by omega⟩
  | succ d ih =>
    intro i m hi h0 h1
    have hil : i < c.length := by omega
    have e : rd c (i : Int) = c[i] := by simp [rd, hil]
    have hb := hc c[i] (List.getElem_mem hil)
    obtain ⟨m', z', he, r⟩ := ih (i + 1) ((m * 257 + c[i] + 1) % 1000003) (by omega) (by omega) (by omega)
    refine ⟨m', z', Ev.step (fun k => ?_) he, r⟩
    simp only [spec_l1Source.l1]
    rw [if_pos (by omega), if_pos (by omega), e, w64 (x := c[i]) (by omega) (by omega), w64 (x := m * 257) (by omega) (by omega), w64 (x := m * 257 + c[i]) (by omega) (by omega), w64 (x := m * 257 + c[i] + 1) (by omega) (by omega), w64 (x := (i : Int) + 1) (by omega) (by omega), Int.tmod_eq_emod_of_nonneg (by omega)]
    rfl
theorem src_j1 (l c : List Int) (hc : okB c) (hl : c.length ≤ 4000) (hll : l.length ≤ 1048576) : ∃ m' z', Ev (fun k => spec_l1Source.j1 k l c 0 0 0) (c, 0, m', z') ∧ 0 ≤ m' ∧ m' < 1000003 ∧ 1 ≤ z' ∧ z' ≤ 7 := by
  obtain ⟨m', z', he, r⟩ := src_l1 c hc hl 0 0 c.length 0 ((l.length : Int) % 1000 + 53) (by omega) (by omega) (by omega)
  refine ⟨m', z', Ev.step (fun k => ?_) he, r⟩
  simp only [spec_l1Source.j1]
  rfl
theorem src_l0 (l : List Int) (hl : okB l) (hll : l.length ≤ 1048576) (d : Nat) : ∀ (i : Nat), i + d = (l.take 4000).length → ∃ m' z', Ev (fun k => spec_l1Source.l0 k l i (l.take i) 0 0 0) (l.take 4000, 0, m', z') ∧ 0 ≤ m' ∧ m' < 1000003 ∧ 1 ≤ z' ∧ z' ≤ 7 := by
  have h4 : (l.take 4000).length = min 4000 l.length := List.length_take
  induction d with
  | zero =>
    intro i hi
    have e : l.take i = l.take 4000 := by
      by_cases h : l.length ≤ 4000
      · rw [List.take_of_length_le (by omega), List.take_of_length_le h]
      · rw [show i = 4000 by omega]
    obtain ⟨m', z', he, r⟩ := src_j1 l (l.take 4000) (okB_take hl 4000) (by omega) hll
    refine ⟨m', z', Ev.step (fun k => ?_) he, r⟩
    simp only [spec_l1Source.l0]
    rw [e]
    by_cases h : (i : Int) < (l.length : Int)
    · rw [if_pos h, if_neg (by omega)]
    · rw [if_neg h]
  | succ d ih =>
    intro i hi
    have hil : i < l.length := by omega
    have e : rd l (i : Int) = l[i] := by simp [rd, hil]
    obtain ⟨m', z', he, r⟩ := ih (i + 1) (by omega)
    refine ⟨m', z', Ev.step (fun k => ?_) he, r⟩
    simp only [spec_l1Source.l0]
    rw [if_pos (by omega), if_pos (by omega), if_pos (by omega), if_pos (by rw [List.length_take]; omega), e, w64 (x := (i : Int) + 1) (by omega) (by omega), List.take_succ_eq_append_getElem hil]
    rfl
/-- What a law's bytes make: a state that draws. -/
theorem src_e (l : List Int) (hl : okB l) (hll : l.length ≤ 1048576) : ∃ c m z, Ev (fun k => spec_l1Source.f k l) (c, 0, m, z) ∧ StOk c 0 m ∧ 1 ≤ z ∧ z ≤ 7 := by
  obtain ⟨m', z', he, r1, r2, r3, r4⟩ := src_l0 l hl hll (l.take 4000).length 0 (by omega)
  exact ⟨l.take 4000, m', z', he, ⟨okB_take hl _, by rw [List.length_take]; omega, by omega, by omega, r1, r2⟩, r3, r4⟩
theorem wrap_lt (x : Int) : wrap64 x < 9223372036854775808 := by unfold wrap64; omega
theorem ds_j3 {c : List Int} {a m : Int} (h : StOk c a m) (z x4 g b s l r : Int) : ∃ t, Ev (fun k => spec_l4DrawSuper.j3 k x4 c a m z g b s l r) t ∧ t.1 = g := by
  by_cases c4 : x4 = 4
  · obtain ⟨r1, a1, m1, e1, h1, _⟩ := next_e h z 2 (by omega)
    refine ⟨_, Ev.step (fun k => by simp only [spec_l4DrawSuper.j3]; rw [if_pos c4, e1]; simp only [Option.bind_some]; rw [if_neg (by omega)]) (Ev.now _), rfl⟩
  · by_cases c5 : x4 = 5
    · obtain ⟨r1, a1, m1, e1, h1, _⟩ := next_e h z 2 (by omega)
      exact ⟨(g, b, s, l, wrap64 (4294967295 + r1), a1, m1, z), Ev.step (fun k => by simp only [spec_l4DrawSuper.j3]; rw [if_neg c4, if_pos c5, e1]; rfl) (Ev.now _), rfl⟩
    · exact ⟨_, Ev.step (fun k => by simp only [spec_l4DrawSuper.j3]; rw [if_neg c4, if_neg c5]) (Ev.now _), rfl⟩
theorem ds_j2 {c : List Int} {a m : Int} (h : StOk c a m) (z x4 g b s l r : Int) : ∃ t, Ev (fun k => spec_l4DrawSuper.j2 k x4 c a m z g b s l r) t ∧ t.1 = g := by
  by_cases c4 : x4 = 3
  · obtain ⟨r1, a1, m1, e1, h1, _⟩ := next_e h z 2 (by omega)
    obtain ⟨t, et, ht⟩ := ds_j3 h1 z x4 g b (wrap64 (2147483647 + r1)) l r
    exact ⟨t, Ev.step (fun k => by simp only [spec_l4DrawSuper.j2]; rw [if_pos c4, e1]; simp only [Option.bind_some]) et, ht⟩
  · obtain ⟨t, et, ht⟩ := ds_j3 h z x4 g b s l r
    exact ⟨t, Ev.step (fun k => by simp only [spec_l4DrawSuper.j2]; rw [if_neg c4]) et, ht⟩
theorem ds_j1 {c : List Int} {a m : Int} (h : StOk c a m) (z x4 g b s l r : Int) : ∃ t, Ev (fun k => spec_l4DrawSuper.j1 k x4 c a m z g b s l r) t ∧ t.1 = g := by
  by_cases c4 : x4 = 2
  · obtain ⟨r1, a1, m1, e1, h1, _⟩ := next_e h z 2 (by omega)
    obtain ⟨t, et, ht⟩ := ds_j2 h1 z x4 g (wrap64 (2 - (wrap64 (3 * r1)))) s l r
    exact ⟨t, Ev.step (fun k => by simp only [spec_l4DrawSuper.j1]; rw [if_pos c4, e1]; simp only [Option.bind_some]) et, ht⟩
  · obtain ⟨t, et, ht⟩ := ds_j2 h z x4 g b s l r
    exact ⟨t, Ev.step (fun k => by simp only [spec_l4DrawSuper.j1]; rw [if_neg c4]) et, ht⟩
theorem ds_j0 {c : List Int} {a m : Int} (h : StOk c a m) (z x4 g b s l r : Int) (hg : g < 9223372036854775808) : ∃ t, Ev (fun k => spec_l4DrawSuper.j0 k x4 c a m z g b s l r) t ∧ t.1 < 9223372036854775808 := by
  by_cases c4 : x4 = 1
  · obtain ⟨r1, a1, m1, e1, h1, _⟩ := next_e h z 2 (by omega)
    obtain ⟨t, et, ht⟩ := ds_j1 h1 z x4 (wrap64 (-r1)) b s l r
    exact ⟨t, Ev.step (fun k => by simp only [spec_l4DrawSuper.j0]; rw [if_pos c4, e1]; simp only [Option.bind_some]) et, by rw [ht]; exact wrap_lt _⟩
  · obtain ⟨t, et, ht⟩ := ds_j1 h z x4 g b s l r
    exact ⟨t, Ev.step (fun k => by simp only [spec_l4DrawSuper.j0]; rw [if_neg c4]) et, by rw [ht]; exact hg⟩
theorem ds_e {c : List Int} {a m : Int} (h : StOk c a m) (z : Int) : ∃ t, Ev (fun k => spec_l4DrawSuper.f k c a m z) t ∧ t.1 < 9223372036854775808 := by
  obtain ⟨r1, a1, m1, e1, h1, _⟩ := next_e h z 600 (by omega)
  obtain ⟨r2, a2, m2, e2, h2, _⟩ := next_e h1 z 2 (by omega)
  obtain ⟨r3, a3, m3, e3, h3, _⟩ := next_e h2 z 90 (by omega)
  obtain ⟨r4, a4, m4, e4, h4, _⟩ := next_e h3 z 4097 (by omega)
  obtain ⟨r5, a5, m5, e5, h5, _⟩ := next_e h4 z 1000000 (by omega)
  obtain ⟨r6, a6, m6, e6, h6, _⟩ := next_e h5 z 24 (by omega)
  by_cases c0 : r6 = 0
  · obtain ⟨r7, a7, m7, e7, h7, _⟩ := next_e h6 z 2 (by omega)
    obtain ⟨t, et, ht⟩ := ds_j0 h7 z r6 (wrap64 (9223372036854775807 - r7)) r2 r3 r4 (wrap64 (r5 * 4294)) (wrap_lt _)
    refine ⟨t, ?_, ht⟩
    simp only [spec_l4DrawSuper.f]
    exact Ev.bindS e1 (Ev.bindS e2 (Ev.bindS e3 (Ev.bindS e4 (Ev.bindS e5 (Ev.bindS e6 (Ev.pos c0 (Ev.bindS e7 et)))))))
  · obtain ⟨t, et, ht⟩ := ds_j0 h6 z r6 (wrap64 (1 + r1)) r2 r3 r4 (wrap64 (r5 * 4294)) (wrap_lt _)
    refine ⟨t, ?_, ht⟩
    simp only [spec_l4DrawSuper.f]
    exact Ev.bindS e1 (Ev.bindS e2 (Ev.bindS e3 (Ev.bindS e4 (Ev.bindS e5 (Ev.bindS e6 (Ev.neg c0 et))))))
theorem drawSuper_e (l : List Int) (hl : okB l) (hll : l.length ≤ 1048576) : ∃ g b s e c : Int, Ev (fun k => spec_DrawEncodeSuper.f k l) (g, b, s, e, c) ∧ g < 9223372036854775808 := by
  obtain ⟨cc, m, z, e1, h1, _⟩ := src_e l hl hll
  obtain ⟨t, et, ht⟩ := ds_e h1 z
  refine ⟨t.1, t.2.1, t.2.2.1, t.2.2.2.1, t.2.2.2.2.1, ?_, ht⟩
  simp only [spec_DrawEncodeSuper.f]
  exact Ev.bind e1 (Ev.bind et (Ev.now _))
theorem bytes_nums (l : List Int) (h : okB l) : bytesOf (strOfNums l) = l := by
  unfold bytesOf
  rw [strOfNums_data, List.map_map]
  refine (List.map_congr_left (g := id) (fun x hx => ?_)).trans (List.map_id _)
  have hb := h x hx
  show (((UInt8.ofNat x.toNat).toNat : Nat) : Int) = x
  rw [UInt8.toNat_ofNat']
  show (((x.toNat % 256 : Nat)) : Int) = x
  omega
theorem bytes_app (a b : List Int) (ha : okB a) (hb : okB b) : bytesOf (strOfNums a ++ strOfNums b) = a ++ b := by
  rw [show bytesOf (strOfNums a ++ strOfNums b) = bytesOf (strOfNums a) ++ bytesOf (strOfNums b) by simp [bytesOf], bytes_nums a ha, bytes_nums b hb]
/-- An image: what both encoders make of it. -/
theorem enc_e (g b s l c : Int) (hg : g < 9223372036854775808) : (Ev (fun k => spec_EncodeSuper.f k g b s l c) [] ∧ Ev (fun k => impl_EncodeSuper.f k g b s l c) []) ∨ ∃ g' b' s' l' c' : Nat, g = g' ∧ b = b' ∧ s = s' ∧ l = l' ∧ c = c' ∧ okS g' b' s' l' c' ∧ g' < 9223372036854775808 ∧ Ev (fun k => spec_EncodeSuper.f k g b s l c) (sup g' b' s' l' c') ∧ Ev (fun k => impl_EncodeSuper.f k g b s l c) (sup g' b' s' l' c') := by
  obtain ⟨v, e1, e2, hv⟩ := valid_e g b s l c
  cases v with
  | false =>
    left
    constructor
    · simp only [spec_EncodeSuper.f]
      exact Ev.bindS e1 (Ev.neg (by simp) (Ev.now _))
    · simp only [impl_EncodeSuper.f]
      exact Ev.bindS e2 (Ev.neg (by simp) (Ev.now _))
  | true =>
    have h := hv rfl
    have ⟨h1, h2, h3, h4, h5, h6, h7, h8, h9⟩ := h
    obtain ⟨g, rfl⟩ := Int.eq_ofNat_of_zero_le (show 0 ≤ g by omega)
    obtain ⟨b, rfl⟩ := Int.eq_ofNat_of_zero_le h2
    obtain ⟨s, rfl⟩ := Int.eq_ofNat_of_zero_le h4
    obtain ⟨l, rfl⟩ := Int.eq_ofNat_of_zero_le h6
    obtain ⟨c, rfl⟩ := Int.eq_ofNat_of_zero_le h8
    right
    refine ⟨g, b, s, l, c, rfl, rfl, rfl, rfl, rfl, h, by omega, specEnc_ev g b s l c h e1 (by omega), ?_⟩
    simp only [impl_EncodeSuper.f]
    exact Ev.bindS e2 (Ev.pos rfl (Ev.bind (implBlock_ev g b s l c h (by omega)) (Ev.now _)))
theorem cut_e (x y : List Int) (hx : okB x) (hy : okB y) (lx : x.length = 64) (ly : y.length = 64) (n : Nat) (hn : n ≤ 64) {r : Bool × Int × Int × Int × Int × Int} (h : Ev (fun k => impl_DecodeSuper.f k (x.take n ++ y.drop n)) r) : Ev (fun k => gosem_cut.f k x y n) r := by
  simp only [gosem_cut.f]
  refine Ev.pos (by omega) (Ev.pos (by omega) (Ev.pos (by omega) (Ev.pos (by omega) ?_)))
  rw [Int.toNat_natCast, bytes_app _ _ (okB_take hx n) (okB_drop hy n)]
  exact h
def ne5 (t1 t2 t3 t4 t5 g b s l c : Int) : Bool := (!(t1 == g) || (!(t2 == b) || (!(t3 == s) || (!(t4 == l) || (!(t5 == c))))))
theorem torn_loop (g1 b1 s1 l1 c1 g2 b2 s2 l2 c2 : Nat) (h1 : okS g1 b1 s1 l1 c1) (hg1 : g1 < 9223372036854775808) (h2 : okS g2 b2 s2 l2 c2) (hg2 : g2 < 9223372036854775808) (d : Nat) : ∀ (n : Nat), n + d = 65 → Ev (fun k => laws_FnTornSuper.l0 k (sup g1 b1 s1 l1 c1) (sup g2 b2 s2 l2 c2) n g1 b1 s1 l1 c1 g2 b2 s2 l2 c2) true := by
  induction d with
  | zero => intro n hn; exact Ev.step (fun k => by simp only [laws_FnTornSuper.l0]; exact if_neg (by omega)) (Ev.now _)
  | succ d ih =>
    intro n hn
    have hnext := ih (n + 1) (by omega)
    have lo := sup_len g1 b1 s1 l1 c1
    have ln := sup_len g2 b2 s2 l2 c2
    obtain ⟨⟨r1, r2, r3, r4, r5, r6⟩, er, hr⟩ := dec_some ((sup g2 b2 s2 l2 c2).take n ++ (sup g1 b1 s1 l1 c1).drop n)
    have ec := cut_e _ _ (okB_sup g2 b2 s2 l2 c2) (okB_sup g1 b1 s1 l1 c1) ln lo n (by omega) er
    have hw : wrap64 ((n : Int) + 1) = ((n + 1 : Nat) : Int) := by rw [w64 (by omega) (by omega)]; rfl
    -- the second test
    have j4 : Ev (fun k => laws_FnTornSuper.j4 k (sup g1 b1 s1 l1 c1) (sup g2 b2 s2 l2 c2) n false g1 b1 s1 l1 c1 g2 b2 s2 l2 c2 r1 r2 r3 r4 r5 r6) true := by
      refine Ev.step (fun k => by simp only [laws_FnTornSuper.j4]; rw [if_neg (by decide), hw]) ?_
      by_cases cg : (g1 : Int) = (g2 : Int)
      · exact Ev.pos cg hnext
      refine Ev.neg cg ?_
      by_cases cr : r1 = true
      · refine Ev.pos cr ?_
        obtain ⟨g, b, s, l, c, hs, hg, he, hm⟩ := hr cr
        simp only [Prod.mk.injEq] at he
        obtain ⟨_, rfl, rfl, rfl, rfl, rfl⟩ := he
        rcases sup_mix hs hg h1 hg1 h2 hg2 (fun e => cg (by rw [e])) n (by omega) hm with ⟨rfl, rfl, rfl, rfl, rfl⟩ | ⟨rfl, rfl, rfl, rfl, rfl⟩
        · exact Ev.neg (by simp) hnext
        · by_cases c1 : ne5 g b s l c g1 b1 s1 l1 c1 = true
          · exact Ev.pos c1 (Ev.neg (by simp) hnext)
          · exact Ev.neg c1 hnext
      · exact Ev.neg cr hnext
    refine Ev.step (f := fun k => _) (fun k => by simp only [laws_FnTornSuper.l0]; exact if_pos (by omega)) (Ev.bind ec ?_)
    by_cases n0 : n = 0
    · have em : (sup g2 b2 s2 l2 c2).take n ++ (sup g1 b1 s1 l1 c1).drop n = sup g1 b1 s1 l1 c1 := by subst n0; rfl
      rw [em] at er
      have := Ev.uniq er (dec_sup g1 b1 s1 l1 c1 h1 hg1)
      simp only [Prod.mk.injEq] at this
      obtain ⟨rfl, rfl, rfl, rfl, rfl, rfl⟩ := this
      exact Ev.pos (by omega) (Ev.pos rfl (Ev.neg (by simp) (Ev.neg (by omega) j4)))
    refine Ev.neg (by omega) ?_
    by_cases n64 : n = 64
    · have em : (sup g2 b2 s2 l2 c2).take n ++ (sup g1 b1 s1 l1 c1).drop n = sup g2 b2 s2 l2 c2 := by
        rw [List.take_of_length_le (by omega), List.drop_of_length_le (by omega), List.append_nil]
      rw [em] at er
      have := Ev.uniq er (dec_sup g2 b2 s2 l2 c2 h2 hg2)
      simp only [Prod.mk.injEq] at this
      obtain ⟨rfl, rfl, rfl, rfl, rfl, rfl⟩ := this
      refine Ev.pos (by omega) (Ev.pos rfl ?_)
      have e5 : (!((g2 : Int) == g2) || (!((b2 : Int) == b2) || (!((s2 : Int) == s2) || (!((l2 : Int) == l2) || (!((c2 : Int) == c2)))))) = false := by simp
      rw [e5]
      exact j4
    · exact Ev.neg (by omega) j4
theorem FnTornSuper : laws_FnTornSuper.Pure := by
  intro l0 l1 _ _ h2 _ _ h4
  apply Ev.rounds
  have ok0 : okB l0 := fun x hx => u8_wf (h2 x hx)
  have ok1 : okB l1 := fun x hx => u8_wf (h4 x hx)
  simp only [laws_FnTornSuper.f]
  by_cases hl : (l0.length : Int) > 1048576
  · exact Ev.pos hl (Ev.step (f := fun _ => some true) (fun k => by simp only [laws_FnTornSuper.j0]; exact if_pos trivial) (Ev.now _))
  refine Ev.neg hl ?_
  by_cases hl1 : (l1.length : Int) > 1048576
  · exact Ev.step (f := fun _ => some true) (fun k => by simp only [laws_FnTornSuper.j0]; exact if_pos (decide_eq_true hl1)) (Ev.now _)
  obtain ⟨g1, b1, s1, e1, c1, d1, hg1⟩ := drawSuper_e l0 ok0 (by omega)
  obtain ⟨g2, b2, s2, e2, c2, d2, hg2⟩ := drawSuper_e l1 ok1 (by omega)
  refine Ev.step (f := fun k => _) (fun k => by simp only [laws_FnTornSuper.j0]; exact if_neg (by rw [decide_eq_false hl1]; decide)) (Ev.bind d1 (Ev.bind d2 ?_))
  have none1 : ∀ (x y : List Int) (g1 b1 s1 e1 c1 g2 b2 s2 e2 c2 : Int), Ev (fun k => spec_EncodeSuper.f k g1 b1 s1 e1 c1) x → Ev (fun k => spec_EncodeSuper.f k g2 b2 s2 e2 c2) y → Ev (fun k => laws_FnTornSuper.j1 k x y true g1 b1 s1 e1 c1 g2 b2 s2 e2 c2) true := by
    intro x y g1 b1 s1 e1 c1 g2 b2 s2 e2 c2 sp1 sp2
    refine Ev.step (f := fun k => _) (fun k => by simp only [laws_FnTornSuper.j1]; exact if_pos trivial) (Ev.bind sp1 (Ev.pos rfl (Ev.bind sp2 ?_)))
    rw [show ((y.length : Int) == (y.length : Int)) = true by simp]
    exact Ev.now _
  rcases enc_e g1 b1 s1 e1 c1 hg1 with ⟨sp1, im1⟩ | ⟨g1, b1, s1, e1, c1, rfl, rfl, rfl, rfl, rfl, h1, hg1', sp1, im1⟩
  · -- the first is none
    obtain ⟨y, sp2, im2⟩ : ∃ y : List Int, Ev (fun k => spec_EncodeSuper.f k g2 b2 s2 e2 c2) y ∧ Ev (fun k => impl_EncodeSuper.f k g2 b2 s2 e2 c2) y := by
      rcases enc_e g2 b2 s2 e2 c2 hg2 with ⟨sp2, im2⟩ | ⟨g2, b2, s2, e2, c2, rfl, rfl, rfl, rfl, rfl, _, _, sp2, im2⟩
      · exact ⟨_, sp2, im2⟩
      · exact ⟨_, sp2, im2⟩
    exact Ev.bind im1 (Ev.bind im2 (Ev.bind sp1 (Ev.pos rfl (none1 _ _ _ _ _ _ _ _ _ _ _ _ sp1 sp2))))
  · have l1 := sup_len g1 b1 s1 e1 c1
    rcases enc_e g2 b2 s2 e2 c2 hg2 with ⟨sp2, im2⟩ | ⟨g2, b2, s2, e2, c2, rfl, rfl, rfl, rfl, rfl, h2', hg2', sp2, im2⟩
    · generalize sup g1 b1 s1 e1 c1 = x at *
      refine Ev.bind im1 (Ev.bind im2 (Ev.bind sp1 (Ev.neg (by omega) (Ev.bind sp2 ?_))))
      rw [show (((([] : List Int).length : Nat) : Int) == 0) = true from rfl]
      exact none1 _ _ _ _ _ _ _ _ _ _ _ _ sp1 sp2
    · have l2 := sup_len g2 b2 s2 e2 c2
      have loop := torn_loop g1 b1 s1 e1 c1 g2 b2 s2 e2 c2 h1 hg1' h2' hg2' 65 0 (by omega)
      generalize sup g1 b1 s1 e1 c1 = x at *
      generalize sup g2 b2 s2 e2 c2 = y at *
      refine Ev.bind im1 (Ev.bind im2 (Ev.bind sp1 (Ev.neg (by omega) (Ev.bind sp2 ?_))))
      rw [show ((y.length : Int) == 0) = false by rw [l2]; rfl]
      refine Ev.step (f := fun k => _) (fun k => by simp only [laws_FnTornSuper.j1]; exact if_neg (by decide)) (Ev.pos (by rw [l1]; rfl) ?_)
      rw [show ((y.length : Int) != 64) = false by rw [l2]; rfl]
      refine Ev.step (f := fun k => _) (fun k => by simp only [laws_FnTornSuper.j2]; exact if_neg (by decide)) ?_
      exact loop

end Go.Proofs.Ytejecjjimggjeaa.Pure
