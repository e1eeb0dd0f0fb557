/- What is proved: the law FnExactDecodeSuper returns true: at every row of bytes the program's DecodeSuper gives the reference's answer, and leaves its argument alone. Conditions: none (where the law looks at a longer row it returns true by itself). -/
import Derived.Test.YtlpjpmfhkmddjaaGFnExactDecodeSuperx5
namespace Go.Proofs.Ytlpjpmfhkmddjaa.Pure
open Go.RowKit Go.Proofs.Ytlpjpmfhkmddjaa.GFnExactDecodeSuper Go.Proofs.YtlpjpmfhkmddjaaW.PrintWords Go.Proofs.YtlpjpmfhkmddjaaW.PrintLast Go.Proofs.YtlpjpmfhkmddjaaW.PrintMore
set_option linter.unusedVariables false
set_option linter.unusedSimpArgs false

theorem w64 {x : Int} (h0 : -9223372036854775808 ≤ x) (h1 : x < 9223372036854775808) : wrap64 x = x := by unfold wrap64; omega
theorem u8_wf {x : Int} (h : (Lit.int .u8 x).wf = true) : 0 ≤ x ∧ x ≤ 255 := by
  simp [Lit.wf, IntKind.min, IntKind.max, IntKind.signed, IntKind.bits] at h
  omega
theorem eqByteS_l (x : List Int) (hl : x.length ≤ 281474976710656) (d : Nat) : ∀ (i : Nat), i + d = x.length → ∀ k, d < k → laws_eqByteS.l0 k x x i = some true := by
  induction d with
  | zero =>
    intro i hi k hk
    obtain ⟨k, rfl⟩ : ∃ m, k = m + 1 := ⟨k - 1, by omega⟩
    simp only [laws_eqByteS.l0]
    rw [if_neg (by omega)]
  | succ d ih =>
    intro i hi k hk
    obtain ⟨k, rfl⟩ : ∃ m, k = m + 1 := ⟨k - 1, by omega⟩
    simp only [laws_eqByteS.l0]
    rw [if_pos (by omega), if_pos (by omega), if_pos (by omega), if_pos trivial, w64 (by omega) (by omega)]
    exact ih (i + 1) (by omega) k (by omega)
theorem eqByteS_ev (l : List Int) (hl : l.length ≤ 281474976710656) : Ev (fun k => laws_eqByteS.f k l l) true := by
  refine ⟨l.length + 1, fun k hk => ?_⟩
  simp only [laws_eqByteS.f]
  rw [if_pos trivial]
  exact eqByteS_l l hl l.length 0 (by omega) k (by omega)

theorem toByteS_l (x0 : List Int) (hl : x0.length ≤ 281474976710656) (d : Nat) : ∀ (i : Nat) (x3 : List Int), i + d = x0.length → x3.length = x0.length → x3.take i = x0.take i → ∀ k, d < k → laws_toByteS.l0 k x0 x3 i = some x0 := by
  induction d with
  | zero =>
    intro i x3 hi hl3 ht k hk
    obtain ⟨k, rfl⟩ : ∃ m, k = m + 1 := ⟨k - 1, by omega⟩
    simp only [laws_toByteS.l0]
    rw [if_neg (by omega), ← List.take_of_length_le (l := x3) (i := i) (by omega), ht, List.take_of_length_le (by omega)]
  | succ d ih =>
    intro i x3 hi hl3 ht k hk
    obtain ⟨k, rfl⟩ : ∃ m, k = m + 1 := ⟨k - 1, by omega⟩
    simp only [laws_toByteS.l0]
    rw [if_pos (by omega), if_pos (by omega), if_pos (by omega), w64 (by omega) (by omega), Int.toNat_natCast]
    refine ih (i + 1) _ (by omega) (by simpa using hl3) ?_ k (by omega)
    apply List.ext_getElem?
    intro n
    simp only [List.getElem?_take, rd, Int.toNat_natCast]
    by_cases hn : n < i
    · have h1 : (x3.take i)[n]? = (x0.take i)[n]? := by rw [ht]
      simp only [List.getElem?_take, if_pos hn] at h1
      rw [if_pos (by omega), if_pos (by omega), List.getElem?_set_ne (by omega)]; exact h1
    · by_cases hn2 : n = i
      · subst hn2; rw [if_pos (by omega), if_pos (by omega), List.getElem?_set_self (by omega)]
        simp [List.getElem?_eq_getElem (show n < x0.length by omega)]
      · rw [if_neg (by omega), if_neg (by omega)]
theorem toByteS_ev (l : List Int) (hl : l.length ≤ 281474976710656) : Ev (fun k => laws_toByteS.f k l) l := by
  refine ⟨l.length + 1, fun k hk => ?_⟩
  simp only [laws_toByteS.f]
  rw [if_pos (by omega), if_pos (by omega)]
  exact toByteS_l l hl l.length 0 _ (by omega) (by simp) (by simp) k (by omega)

theorem Ev.pos {α : Type} {c : Prop} [Decidable c] {f g : Nat → Option α} {r : α} (hc : c) (h : Ev f r) : Ev (fun n => if c then f n else g n) r := Ev.congr (fun _ => if_pos hc) h
theorem Ev.neg {α : Type} {c : Prop} [Decidable c] {f g : Nat → Option α} {r : α} (hc : ¬c) (h : Ev g r) : Ev (fun n => if c then f n else g n) r := Ev.congr (fun _ => if_neg hc) h
theorem Ev.ofE {α : Type} {f : Option α} {r : α} (h : f = some r) : Ev (fun _ => f) r := ⟨0, fun _ _ => h⟩
theorem Ev.bindS {α β : Type} {g : Option α} {f : Nat → α → Option β} {a : α} {r : β} (h : g = some a) (k : Ev (fun n => f n a) r) : Ev (fun n => g.bind (f n)) r := Ev.congr (fun _ => by rw [h]; rfl) k
def beB : Nat → Nat → List Int
  | 0, _ => []
  | n + 1, v => beB n (v / 256) ++ [((v % 256 : Nat) : Int)]
theorem beB_len (n : Nat) : ∀ v, (beB n v).length = n := by
  induction n with
  | zero => intro v; rfl
  | succ n ih => intro v; simp [beB, ih]
theorem beB_head (n : Nat) : ∀ v, beB (n + 1) v = ((v / 256 ^ n % 256 : Nat) : Int) :: beB n v := by
  induction n with
  | zero => intro v; simp [beB]
  | succ n ih =>
    intro v
    rw [show beB (n + 1 + 1) v = beB (n + 1) (v / 256) ++ [((v % 256 : Nat) : Int)] from rfl, ih, show beB (n + 1) v = beB n (v / 256) ++ [((v % 256 : Nat) : Int)] from rfl, Nat.div_div_eq_div_mul, Nat.pow_succ, Nat.mul_comm 256]
    rfl
theorem specBig_ev (n : Nat) : ∀ (v : Nat), v < 9223372036854775808 → n ≤ 1000 → Ev (fun k => spec_l4Big.f k v n) (beB n v) := by
  induction n with
  | zero => intro v _ _; exact Ev.step (fun k => by simp only [spec_l4Big.f]; exact if_pos (by rfl)) (Ev.now _)
  | succ n ih =>
    intro v hv hn
    refine Ev.step (fun k => by simp only [spec_l4Big.f]; rw [if_neg (by omega), show Int.tdiv (v : Int) 256 = ((v / 256 : Nat) : Int) from rfl, show Int.tmod (v : Int) 256 = ((v % 256 : Nat) : Int) from rfl, w64 (by omega) (by omega), w64 (by omega) (by omega), show ((n + 1 : Nat) : Int) - 1 = (n : Int) by omega]) ?_
    refine Ev.bind (ih (v / 256) (by omega) (by omega)) (Ev.pos (by rw [beB_len]; omega) ?_)
    rw [show ((v % 256 : Nat) : Int) % 256 = ((v % 256 : Nat) : Int) by omega]
    exact Ev.now _
theorem implBig_l (v : Nat) (hv : v < 9223372036854775808) (n : Nat) : ∀ (x : List Int), n ≤ 8 → x.length + n ≤ 1000100 → Ev (fun k => impl_big.l0 k x v ((n : Int) - 1)) (x ++ beB n v) := by
  induction n with
  | zero => intro x _ _; simpa [beB] using (Ev.step (fun k => by simp only [impl_big.l0]; exact if_neg (by omega)) (Ev.now x) : Ev (fun k => impl_big.l0 k x v (((0 : Nat) : Int) - 1)) x)
  | succ n ih =>
    intro x hn hx
    have e : (shr .u64 (IntKind.u64.wrap (v : Int)) (8 * (n : Int))) % 256 = ((v / 256 ^ n % 256 : Nat) : Int) := by
      have h1 : IntKind.u64.wrap (v : Int) = (v : Int) := by
        show (v : Int) % 18446744073709551616 = v
        omega
      rw [h1]
      unfold shr
      have h2 : min (8 * (n : Int)).toNat IntKind.u64.bits = 8 * n := by
        show min (8 * (n : Int)).toNat 64 = 8 * n
        omega
      have h3 : (2 : Int) ^ (8 * n) = ((256 ^ n : Nat) : Int) := by rw [show (256 : Nat) = 2 ^ 8 from rfl, ← Nat.pow_mul]; simp
      rw [h2, h3]
      rfl
    refine Ev.step (fun k => by simp only [impl_big.l0]; rw [show ((n + 1 : Nat) : Int) - 1 = (n : Int) by omega, w64 (by omega) (by omega), w64 (by omega) (by omega), e]) ?_
    refine Ev.pos (by omega) (Ev.pos (by omega) (Ev.pos (by omega) ?_))
    rw [beB_head, show x ++ ((v / 256 ^ n % 256 : Nat) : Int) :: beB n v = (x ++ [((v / 256 ^ n % 256 : Nat) : Int)]) ++ beB n v by simp]
    refine ih (x ++ [((v / 256 ^ n % 256 : Nat) : Int)]) (by omega) ?_
    rw [List.length_append, List.length_singleton]; omega
theorem implBig_ev (x : List Int) (n : Nat) (v : Nat) (hv : v < 9223372036854775808) (hn : n ≤ 8) (hx : x.length ≤ 1000000) : Ev (fun k => impl_big.f k x n v) (x ++ beB n v) := by
  simp only [impl_big.f]
  rw [w64 (by omega) (by omega)]
  exact implBig_l v hv n x hn (by omega)

def sup (g b s l c : Nat) : List Int := beB 8 g ++ beB 1 b ++ beB 4 s ++ beB 4 l ++ beB 4 c ++ List.replicate 35 0 ++ beB 8 g
theorem sup_len (g b s l c : Nat) : (sup g b s l c).length = 64 := by simp [sup, beB_len]
def okS (g b s l c : Int) : Prop := 1 ≤ g ∧ 0 ≤ b ∧ b ≤ 1 ∧ 0 ≤ s ∧ s ≤ 2147483647 ∧ 0 ≤ l ∧ l ≤ 4096 ∧ 0 ≤ c ∧ c ≤ 4294967295
theorem specPad (g b s l c : Nat) (hg : g < 9223372036854775808) (d : Nat) : ∀ (x : List Int), x.length + d = 56 → Ev (fun k => spec_EncodeSuper.l0 k x g b s l c) (x ++ List.replicate d 0 ++ beB 8 g) := by
  induction d with
  | zero =>
    intro x hx
    refine Ev.step (fun k => by simp only [spec_EncodeSuper.l0]; exact if_neg (by omega)) ?_
    refine Ev.bind (specBig_ev 8 g hg (by omega)) (Ev.pos (by rw [beB_len]; omega) ?_)
    simp only [List.replicate_zero, List.append_nil]
    exact Ev.now _
  | succ d ih =>
    intro x hx
    refine Ev.step (fun k => by simp only [spec_EncodeSuper.l0]; rw [if_pos (by omega), Option.bind_some]) ?_
    refine Ev.pos (by simp; omega) ?_
    rw [List.replicate_succ, show x ++ (0 : Int) :: List.replicate d 0 = (x ++ [0]) ++ List.replicate d 0 by simp]
    exact ih _ (by simp; omega)
theorem valid_e (g b s l c : Int) : ∃ v : Bool, spec_l4ValidSuper.f g b s l c = some v ∧ impl_Super_valid.f g b s l c = some v ∧ (v = true → okS g b s l c) := by
  by_cases h : okS g b s l c
  · have ⟨h1, h2, h3, h4, h5, h6, h7, h8, h9⟩ := h
    refine ⟨true, ?_, ?_, fun _ => h⟩
    · simp only [spec_l4ValidSuper.f, spec_l3Stat.f]
      rw [if_pos h1, if_pos h2, if_pos h3, if_pos h4, Option.bind_some, decide_eq_true h5, if_pos rfl, if_pos h6, if_pos h7, if_pos h8, decide_eq_true h9]
    · simp only [impl_Super_valid.f]
      rw [if_pos h1, if_pos (c := s ≥ 0) h4, if_pos h5, if_pos (c := l ≥ 0) h6, if_pos h7, if_pos (c := c ≥ 0) h8, decide_eq_true h9]
      by_cases hb : b = 0
      · rw [if_pos hb]
      · rw [if_neg hb, if_pos (by omega)]
  · refine ⟨false, ?_, ?_, fun h => by cases h⟩
    · simp only [spec_l4ValidSuper.f, spec_l3Stat.f]
      repeat' first
        | (split)
        | rfl
        | (simp only [Option.bind_some])
      all_goals simp_all [okS]
      all_goals omega
    · simp only [impl_Super_valid.f]
      repeat' first
        | (split)
        | rfl
      all_goals simp_all [okS]
      all_goals omega
theorem specEnc_ev (g b s l c : Nat) (h : okS g b s l c) (hv : spec_l4ValidSuper.f g b s l c = some true) (hg : g < 9223372036854775808) : Ev (fun k => spec_EncodeSuper.f k g b s l c) (sup g b s l c) := by
  have ⟨h1, h2, h3, h4, h5, h6, h7, h8, h9⟩ := h
  simp only [spec_EncodeSuper.f]
  refine Ev.bindS hv (Ev.pos rfl ?_)
  refine Ev.bind (specBig_ev 8 g hg (by omega)) ?_
  simp only [Option.bind_some]
  refine Ev.pos (by simp [beB_len]) ?_
  refine Ev.bind (specBig_ev 4 s (by omega) (by omega)) (Ev.pos (by simp [beB_len]) ?_)
  refine Ev.bind (specBig_ev 4 l (by omega) (by omega)) (Ev.pos (by simp [beB_len]) ?_)
  refine Ev.bind (specBig_ev 4 c (by omega) (by omega)) (Ev.pos (by simp [beB_len]) ?_)
  have e : [(b : Int) % 256] = beB 1 b := by simp [beB]
  rw [e]
  exact specPad g b s l c hg 35 _ (by simp [beB_len])
theorem implBlock_ev (g b s l c : Nat) (h : okS g b s l c) (hg : g < 9223372036854775808) : Ev (fun k => impl_Super_block.f k g b s l c) (sup g b s l c) := by
  have ⟨h1, h2, h3, h4, h5, h6, h7, h8, h9⟩ := h
  simp only [impl_Super_block.f]
  refine Ev.bind (a := sup g b s l c) ?_ (Ev.pos (sup_len g b s l c) (Ev.now _))
  refine Ev.bind (implBig_ev [] 8 g hg (by omega) (by simp)) ?_
  refine Ev.bind (implBig_ev _ 1 b (by omega) (by omega) (by simp [beB_len])) ?_
  refine Ev.bind (implBig_ev _ 4 s (by omega) (by omega) (by simp [beB_len])) ?_
  refine Ev.bind (implBig_ev _ 4 l (by omega) (by omega) (by simp [beB_len])) ?_
  refine Ev.bind (implBig_ev _ 4 c (by omega) (by omega) (by simp [beB_len])) ?_
  have e : wrap64 (56 - (((([] : List Int) ++ beB 8 g ++ beB 1 b ++ beB 4 s ++ beB 4 l ++ beB 4 c).length : Nat) : Int)) = 35 := by
    simp only [List.length_append, beB_len, List.length_nil]; exact w64 (by omega) (by omega)
  rw [e]
  refine Ev.pos (by omega) (Ev.pos (by simp [beB_len]) ?_)
  refine Ev.bind (implBig_ev _ 8 g hg (by omega) (by simp [beB_len])) ?_
  exact Ev.now _

theorem strs_eqB (a b : List Int) (ha : ∀ x ∈ a, 0 ≤ x ∧ x ≤ 255) (hb : ∀ x ∈ b, 0 ≤ x ∧ x ≤ 255) : ((strOfNums a).toList == (strOfNums b).toList) = decide (a = b) := by
  by_cases h : a = b
  · subst h; simp
  · rw [decide_eq_false h, beq_eq_false_iff_ne, Lib.strOfNums_toList, Lib.strOfNums_toList]
    intro he
    apply h
    have hlen : a.length = b.length := by simpa [Lib.bytesOf] using congrArg List.length he
    apply List.ext_getElem hlen
    intro n h1 h2
    have e := congrArg (fun l => l[n]?) he
    simp only [Lib.bytesOf, List.getElem?_map, List.getElem?_eq_getElem h1, List.getElem?_eq_getElem h2, Option.map_some, Option.some.injEq] at e
    have ha1 := ha a[n] (List.getElem_mem h1)
    have hb1 := hb b[n] (List.getElem_mem h2)
    have e2 := congrArg UInt8.toNat e
    simp at e2
    omega
def okB (l : List Int) : Prop := ∀ x ∈ l, 0 ≤ x ∧ x ≤ 255
def beF (v : Nat) (l : List Int) : Nat := l.foldl (fun v b => v * 256 + b.toNat) v
theorem numStep_e (v : Nat) (b : Int) (hv : v < 72057594037927936) (h0 : 0 ≤ b) (h1 : b ≤ 255) : numStep (v : Int) b = ((v * 256 + b.toNat : Nat) : Int) := by
  obtain ⟨c, rfl⟩ := Int.eq_ofNat_of_zero_le h0
  have e1 : IntKind.u64.wrap ((v : Int) * 256) = ((v * 256 : Nat) : Int) := by
    show ((v : Int) * 256) % 18446744073709551616 = _
    omega
  have e2 : IntKind.u64.wrap (c : Int) = (c : Int) := by
    show (c : Int) % 18446744073709551616 = _
    omega
  have e3 : v * 256 ||| c = v * 256 + c := by
    have := Nat.two_pow_add_eq_or_of_lt (i := 8) (b := c) (by omega) v
    rw [show (2 : Nat) ^ 8 = 256 from rfl, Nat.mul_comm 256 v] at this
    exact this.symm
  unfold numStep
  rw [e1, e2]
  unfold bits
  have e4 : ((BitVec.ofInt IntKind.u64.bits ((v * 256 : Nat) : Int)) ||| (BitVec.ofInt IntKind.u64.bits (c : Int))).toNat = v * 256 + c := by
    rw [BitVec.toNat_or, BitVec.ofInt_natCast, BitVec.ofInt_natCast, BitVec.toNat_ofNat, BitVec.toNat_ofNat]
    show (v * 256 % 18446744073709551616) ||| (c % 18446744073709551616) = _
    rw [Nat.mod_eq_of_lt (by omega), Nat.mod_eq_of_lt (by omega), e3]
  simp only [e4]
  show (((v * 256 + c : Nat) : Int)) % 18446744073709551616 = _
  rw [Int.toNat_natCast]
  omega
theorem beF_lt : ∀ (l : List Int) (v : Nat), okB l → beF v l < (v + 1) * 256 ^ l.length := by
  intro l
  induction l with
  | nil => intro v _; simp [beF]
  | cons b l ih =>
    intro v h
    have hb := h b (by simp)
    have h1 := ih (v * 256 + b.toNat) (fun x hx => h x (by simp [hx]))
    have h2 : (v * 256 + b.toNat + 1) * 256 ^ l.length ≤ (v + 1) * 256 * 256 ^ l.length := Nat.mul_le_mul_right _ (by omega)
    simp only [beF, List.foldl_cons, List.length_cons] at h1 ⊢
    rw [Nat.pow_succ, Nat.mul_comm (256 ^ l.length) 256, ← Nat.mul_assoc]
    omega
theorem numStep_f : ∀ (l : List Int) (v : Nat), okB l → (v + 1) * 256 ^ l.length ≤ 18446744073709551616 → l.foldl numStep (v : Int) = ((beF v l : Nat) : Int) := by
  intro l
  induction l with
  | nil => intro v _ _; rfl
  | cons b l ih =>
    intro v h hv
    have hb := h b (by simp)
    have hp : 1 ≤ 256 ^ l.length := Nat.one_le_pow _ _ (by omega)
    rw [List.length_cons, Nat.pow_succ, Nat.mul_comm (256 ^ l.length) 256, ← Nat.mul_assoc] at hv
    have hv1 : (v + 1) * 256 * 1 ≤ (v + 1) * 256 * 256 ^ l.length := Nat.mul_le_mul_left _ hp
    have h2 : (v * 256 + b.toNat + 1) * 256 ^ l.length ≤ (v + 1) * 256 * 256 ^ l.length := Nat.mul_le_mul_right _ (by omega)
    rw [List.foldl_cons, numStep_e v b (by omega) hb.1 hb.2, ih _ (fun x hx => h x (by simp [hx])) (by omega)]
    rfl
theorem specNum_l (l : List Int) (h : okB l) (hl : l.length ≤ 1000) (d : Nat) : ∀ (i v : Nat), i + d = l.length → (v + 1) * 256 ^ d ≤ 9223372036854775808 → Ev (fun k => spec_l4Number.l0 k l v i) ((beF v (l.drop i) : Nat) : Int) := by
  induction d with
  | zero =>
    intro i v hi _
    refine Ev.step (fun k => by simp only [spec_l4Number.l0]; exact if_neg (by omega)) ?_
    rw [List.drop_of_length_le (by omega)]
    exact Ev.now _
  | succ d ih =>
    intro i v hi hv
    have hil : i < l.length := by omega
    have e : rd l (i : Int) = l[i] := by simp [rd, hil]
    have hb := h l[i] (List.getElem_mem hil)
    have hp : 1 ≤ 256 ^ d := Nat.one_le_pow _ _ (by omega)
    rw [Nat.pow_succ, Nat.mul_comm (256 ^ d) 256, ← Nat.mul_assoc] at hv
    have hv1 : (v + 1) * 256 * 1 ≤ (v + 1) * 256 * 256 ^ d := Nat.mul_le_mul_left _ hp
    have h2 : (v * 256 + l[i].toNat + 1) * 256 ^ d ≤ (v + 1) * 256 * 256 ^ d := Nat.mul_le_mul_right _ (by omega)
    have hn := ih (i + 1) (v * 256 + l[i].toNat) (by omega) (by omega)
    · refine Ev.step (f := fun k => spec_l4Number.l0 k l ((v * 256 + l[i].toNat : Nat) : Int) ((i + 1 : Nat) : Int)) (fun k => by
        simp only [spec_l4Number.l0]
        have e1 : wrap64 ((v : Int) * 256) = ((v * 256 : Nat) : Int) := by rw [w64 (by omega) (by omega)]; omega
        have e2 : wrap64 l[i] = l[i] := w64 (by omega) (by omega)
        rw [if_pos (by omega), if_pos (by omega), e, e1, e2]
        clear e1 e2
        rw [w64 (x := ((v * 256 : Nat) : Int) + l[i]) (by omega) (by omega), w64 (x := (i : Int) + 1) (by omega) (by omega)]
        rw [show ((v * 256 : Nat) : Int) + l[i] = ((v * 256 + l[i].toNat : Nat) : Int) by omega]
        rfl) ?_
      rw [List.drop_eq_getElem_cons hil]
      exact hn
theorem okB_take {l : List Int} (h : okB l) (n : Nat) : okB (l.take n) := fun x hx => h x (List.mem_of_mem_take hx)
theorem okB_drop {l : List Int} (h : okB l) (n : Nat) : okB (l.drop n) := fun x hx => h x (List.mem_of_mem_drop hx)
theorem rnum_s (l : List Int) (h : okB l) (n : Nat) (hl : l.length = n) (hn : n ≤ 4) : rnum l = ((beF 0 l : Nat) : Int) ∧ beF 0 l < 4294967296 := by
  have h1 := beF_lt l 0 h
  have hp : 256 ^ l.length ≤ 256 ^ 4 := Nat.pow_le_pow_right (by omega) (by omega)
  have h256 : (256 : Nat) ^ 4 = 4294967296 := by decide
  have h2 := numStep_f l 0 h (by omega)
  unfold rnum
  rw [show (0 : Int) = ((0 : Nat) : Int) from rfl, h2, w64 (by omega) (by omega)]
  exact ⟨rfl, by omega⟩
theorem specNum_s (l : List Int) (h : okB l) (n : Nat) (hl : l.length = n) (hn : n ≤ 4) : Ev (fun k => spec_l4Number.f k l) ((beF 0 l : Nat) : Int) := by
  have hp : 256 ^ l.length ≤ 256 ^ 4 := Nat.pow_le_pow_right (by omega) (by omega)
  have h256 : (256 : Nat) ^ 4 = 4294967296 := by decide
  have := specNum_l l h (by omega) l.length 0 0 (by omega) (by omega)
  rw [List.drop_zero] at this
  exact this
theorem num8 (l : List Int) (h : okB l) (hl : l.length = 8) : rnum l = wrap64 ((beF 0 l : Nat) : Int) ∧ beF 0 l < 18446744073709551616 ∧ (rd l 0 ≤ 127 → beF 0 l < 9223372036854775808 ∧ Ev (fun k => spec_l4Number.f k l) ((beF 0 l : Nat) : Int)) ∧ (rd l 0 > 127 → 9223372036854775808 ≤ beF 0 l) := by
  have h1 := beF_lt l 0 h
  have h2 := numStep_f l 0 h (by rw [hl]; decide)
  have h256 : (256 : Nat) ^ 8 = 18446744073709551616 := by decide
  have h257 : (256 : Nat) ^ 7 = 72057594037927936 := by decide
  rw [hl] at h1
  refine ⟨by unfold rnum; rw [show (0 : Int) = ((0 : Nat) : Int) from rfl, h2], by omega, ?_, ?_⟩
  · intro h0
    match l, hl, h, h0 with
    | b :: m, hl, h, h0 =>
      have hb := h b (by simp)
      have hm : okB m := fun x hx => h x (by simp [hx])
      have hml : m.length = 7 := by simpa using hl
      have hb0 : b ≤ 127 := h0
      have e : beF 0 (b :: m) = beF b.toNat m := by simp [beF]
      have hlt := beF_lt m b.toNat hm
      rw [hml, h257] at hlt
      refine ⟨by rw [e]; omega, ?_⟩
      have key := specNum_l (b :: m) h (by omega) 7 1 b.toNat (by omega) (by rw [h257]; omega)
      rw [e]
      refine Ev.step (f := fun k => spec_l4Number.l0 k (b :: m) ((b.toNat : Nat) : Int) ((1 : Nat) : Int)) (g := fun k => spec_l4Number.l0 k (b :: m) 0 0) (fun k => by
        simp only [spec_l4Number.l0]
        rw [if_pos (by simp only [List.length_cons]; omega), if_pos (by omega)]
        have e3 : rd (b :: m) 0 = b := rfl
        rw [e3, w64 (x := 0 * 256) (by omega) (by omega), w64 (x := b) (by omega) (by omega), w64 (x := 0 * 256 + b) (by omega) (by omega), w64 (x := 0 + 1) (by omega) (by omega)]
        rw [show (0 : Int) * 256 + b = ((b.toNat : Nat) : Int) by omega]
        rfl) key
  · intro h0
    match l, hl, h, h0 with
    | b :: m, hl, h, h0 =>
      have hb := h b (by simp)
      have hml : m.length = 7 := by simpa using hl
      have hb0 : b > 127 := h0
      have ge : ∀ (m : List Int) (v : Nat), v * 256 ^ m.length ≤ beF v m := by
        intro m
        induction m with
        | nil => intro v; simp [beF]
        | cons c m ih =>
          intro v
          have h3 := ih (v * 256 + c.toNat)
          have h4 : v * 256 * 256 ^ m.length ≤ (v * 256 + c.toNat) * 256 ^ m.length := Nat.mul_le_mul_right _ (by omega)
          simp only [beF, List.foldl_cons, List.length_cons] at h3 ⊢
          rw [Nat.pow_succ, Nat.mul_comm (256 ^ m.length) 256, ← Nat.mul_assoc]
          exact Nat.le_trans h4 h3
      have := ge m b.toNat
      have e : beF 0 (b :: m) = beF b.toNat m := by simp [beF]
      rw [hml, h257] at this
      rw [e]
      omega
theorem okB_be : ∀ (n v : Nat), okB (beB n v) := by
  intro n
  induction n with
  | zero => intro v x hx; cases hx
  | succ n ih =>
    intro v x hx
    simp only [beB, List.mem_append, List.mem_singleton] at hx
    rcases hx with hx | rfl
    · exact ih _ x hx
    · omega
theorem okB_app {a b : List Int} (h : okB a) (k : okB b) : okB (a ++ b) := fun x hx => (List.mem_append.mp hx).elim (h x) (k x)
theorem okB_sup (g b s l c : Nat) : okB (sup g b s l c) := by
  unfold sup
  exact okB_app (okB_app (okB_app (okB_app (okB_app (okB_app (okB_be _ _) (okB_be _ _)) (okB_be _ _)) (okB_be _ _)) (okB_be _ _)) (fun x hx => by rw [List.eq_of_mem_replicate hx]; omega)) (okB_be _ _)
theorem decKey (l : List Int) (h : okB l) (hl : l.length ≤ 1048576) : ∃ r : Bool × Int × Int × Int × Int × Int, Ev (fun k => spec_DecodeSuper.f k l) r ∧ Ev (fun k => impl_DecodeSuper.f k l) r := by
  have none_ : Ev (fun k => spec_DecodeSuper.j0 k l true) (false, 0, 0, 0, 0, 0) := Ev.step (fun k => by simp only [spec_DecodeSuper.j0]; exact if_pos trivial) (Ev.now _)
  by_cases nc : ¬((l.length : Int) = 64)
  · refine ⟨(false, 0, 0, 0, 0, 0), ?_, ?_⟩
    · simp only [spec_DecodeSuper.f]; exact Ev.neg nc none_
    · simp only [impl_DecodeSuper.f]; exact Ev.neg nc (Ev.now _)
  have c : (l.length : Int) = 64 := by omega
  have hl64 : l.length = 64 := by omega
  have t8 : (l.take 8).length = 8 := by simp; omega
  obtain ⟨n1, n2, n3, n4⟩ := num8 (l.take 8) (okB_take h 8) t8
  have r0 : rd (l.take 8) 0 = rd l 0 := by
    match l, hl64 with
    | b :: m, _ => rfl
  rw [r0] at n3 n4
  have t1 : ((l.drop 8).take 1).length = 1 := by simp; omega
  have t9 : ((l.drop 9).take 4).length = 4 := by simp; omega
  have t13 : ((l.drop 13).take 4).length = 4 := by simp; omega
  have t17 : ((l.drop 17).take 4).length = 4 := by simp; omega
  obtain ⟨b1, b2⟩ := rnum_s _ (okB_take (okB_drop h 8) 1) 1 t1 (by omega)
  obtain ⟨s1, s2⟩ := rnum_s _ (okB_take (okB_drop h 9) 4) 4 t9 (by omega)
  obtain ⟨l1, l2⟩ := rnum_s _ (okB_take (okB_drop h 13) 4) 4 t13 (by omega)
  obtain ⟨c1, c2⟩ := rnum_s _ (okB_take (okB_drop h 17) 4) 4 t17 (by omega)
  have es := specNum_s _ (okB_take (okB_drop h 9) 4) 4 t9 (by omega)
  have el := specNum_s _ (okB_take (okB_drop h 13) 4) 4 t13 (by omega)
  have ec := specNum_s _ (okB_take (okB_drop h 17) 4) 4 t17 (by omega)
  have d8 : (l.drop 8).take 1 = [rd l 8] := by
    have e8 : rd l 8 = l[8] := by simp [rd, show 8 < l.length by omega]
    rw [e8, List.drop_eq_getElem_cons (by omega), List.take_succ_cons, List.take_zero]
  have hb8 : 0 ≤ rd l 8 ∧ rd l 8 ≤ 255 := by
    have : rd l 8 ∈ (l.drop 8).take 1 := by rw [d8]; simp
    exact okB_take (okB_drop h 8) 1 _ this
  have bb : ((beF 0 ((l.drop 8).take 1) : Nat) : Int) = rd l 8 := by rw [d8]; simp only [beF, List.foldl_cons, List.foldl_nil]; omega
  rw [bb] at b1
  have e13 : (l.take 13).drop 9 = (l.drop 9).take 4 := by rw [List.drop_take]
  have e17 : (l.take 17).drop 13 = (l.drop 13).take 4 := by rw [List.drop_take]
  have e21 : (l.take 21).drop 17 = (l.drop 17).take 4 := by rw [List.drop_take]
  by_cases c127 : rd l 0 > 127
  · have hg := n4 c127
    refine ⟨(false, 0, 0, 0, 0, 0), ?_, ?_⟩
    · simp only [spec_DecodeSuper.f]
      rw [decide_eq_true c127]
      exact Ev.pos c (Ev.pos (by omega) none_)
    · simp only [impl_DecodeSuper.f]
      refine Ev.pos c ?_
      have hv : impl_Super_valid.f (rnum (l.take 8)) (rnum ((l.drop 8).take 1)) (rnum ((l.drop 9).take 4)) (rnum ((l.drop 13).take 4)) (rnum ((l.drop 17).take 4)) = some false := by
        simp only [impl_Super_valid.f]
        exact if_neg (by rw [n1]; unfold wrap64; omega)
      exact Ev.bindS hv (Ev.neg (by decide) (Ev.now _))
  · obtain ⟨g2, eg⟩ := n3 (by omega)
    have n1' : rnum (l.take 8) = ((beF 0 (l.take 8) : Nat) : Int) := by rw [n1, w64 (by omega) (by omega)]
    obtain ⟨v, v1, v2, v3⟩ := valid_e ((beF 0 (l.take 8) : Nat) : Int) (rd l 8) ((beF 0 ((l.drop 9).take 4) : Nat) : Int) ((beF 0 ((l.drop 13).take 4) : Nat) : Int) ((beF 0 ((l.drop 17).take 4) : Nat) : Int)
    have hw8 : wrap64 (rd l 8) = rd l 8 := w64 (by omega) (by omega)
    have HW8 := Aside0.mk hw8
    clear hw8 n1
    -- the reference's side, up to the image
    have spec : ∀ (img : List Int) (r : Bool × Int × Int × Int × Int × Int), Ev (fun k => spec_EncodeSuper.f k ((beF 0 (l.take 8) : Nat) : Int) (rd l 8) ((beF 0 ((l.drop 9).take 4) : Nat) : Int) ((beF 0 ((l.drop 13).take 4) : Nat) : Int) ((beF 0 ((l.drop 17).take 4) : Nat) : Int)) img → okB img → r = (if img = l then (true, ((beF 0 (l.take 8) : Nat) : Int), rd l 8, ((beF 0 ((l.drop 9).take 4) : Nat) : Int), ((beF 0 ((l.drop 13).take 4) : Nat) : Int), ((beF 0 ((l.drop 17).take 4) : Nat) : Int)) else (false, 0, 0, 0, 0, 0)) → Ev (fun k => spec_DecodeSuper.f k l) r := by
      intro img r hi hok hr
      simp only [spec_DecodeSuper.f]
      rw [decide_eq_false c127]
      refine Ev.pos c (Ev.pos (by omega) (Ev.step (fun k => by simp only [spec_DecodeSuper.j0]; rw [if_neg (by decide), if_pos (by omega), e13, e17, e21, HW8.out]) ?_))
      refine Ev.bind eg (Ev.pos (by omega) (Ev.pos (by omega) (Ev.pos (by omega) ?_)))
      refine Ev.bind es (Ev.pos (by omega) (Ev.pos (by omega) ?_))
      refine Ev.bind el (Ev.pos (by omega) (Ev.pos (by omega) ?_))
      refine Ev.bind ec (Ev.bind hi (Ev.bindS rfl ?_))
      rw [strs_eqB img l hok h, hr]
      by_cases ci : img = l
      · rw [if_pos ci]; exact Ev.pos (by simp [ci]) (Ev.now _)
      · rw [if_neg ci]; exact Ev.neg (by simp [ci]) (Ev.now _)
    cases v with
    | false =>
      refine ⟨(false, 0, 0, 0, 0, 0), spec [] _ ?_ (fun x hx => by cases hx) (by rw [if_neg (fun e => by rw [← e] at hl64; cases hl64)]), ?_⟩
      · simp only [spec_EncodeSuper.f]
        exact Ev.bindS v1 (Ev.neg (by simp) (Ev.now _))
      · simp only [impl_DecodeSuper.f, n1', b1, s1, l1, c1]
        exact Ev.pos c (Ev.bindS v2 (Ev.neg (by decide) (Ev.now _)))
    | true =>
      have hok := v3 rfl
      obtain ⟨bn, hbn⟩ := Int.eq_ofNat_of_zero_le hb8.1
      rw [hbn] at hok v1 v2 spec b1
      have si := sup_len (beF 0 (l.take 8)) bn (beF 0 ((l.drop 9).take 4)) (beF 0 ((l.drop 13).take 4)) (beF 0 ((l.drop 17).take 4))
      have hsup := okB_sup (beF 0 (l.take 8)) bn (beF 0 ((l.drop 9).take 4)) (beF 0 ((l.drop 13).take 4)) (beF 0 ((l.drop 17).take 4))
      have ei := implBlock_ev _ bn _ _ _ hok g2
      have ee := specEnc_ev _ bn _ _ _ hok v1 g2
      by_cases ci : sup (beF 0 (l.take 8)) bn (beF 0 ((l.drop 9).take 4)) (beF 0 ((l.drop 13).take 4)) (beF 0 ((l.drop 17).take 4)) = l
      · refine ⟨_, spec _ _ ee hsup (if_pos ci).symm, ?_⟩
        simp only [impl_DecodeSuper.f, n1', b1, s1, l1, c1]
        exact Ev.pos c (Ev.bindS v2 (Ev.pos rfl (Ev.bind ei (Ev.pos ci (Ev.now _)))))
      · refine ⟨_, spec _ _ ee hsup (if_neg ci).symm, ?_⟩
        simp only [impl_DecodeSuper.f, n1', b1, s1, l1, c1]
        exact Ev.pos c (Ev.bindS v2 (Ev.pos rfl (Ev.bind ei (Ev.neg ci (Ev.now _)))))
theorem FnExactDecodeSuper : laws_FnExactDecodeSuper.Pure := by
  intro l _ _ hw
  apply Ev.rounds
  simp only [laws_FnExactDecodeSuper.f]
  by_cases hl : (l.length : Int) > 1048576
  · exact Ev.pos hl (Ev.now _)
  refine Ev.neg hl ?_
  have hB : okB l := fun x hx => u8_wf (hw x hx)
  obtain ⟨⟨q1, q2, q3, q4, q5, q6⟩, es, ei⟩ := decKey l hB (by omega)
  have tb := toByteS_ev l (by omega)
  refine Ev.bind tb (Ev.bind es (Ev.bind tb (Ev.bind ei ?_)))
  have eq1 : laws_eqSuper.f q2 q3 q4 q5 q6 q2 q3 q4 q5 q6 = some true := by simp [laws_eqSuper.f]
  have eq2 : laws_eqSuperResult.f q1 q2 q3 q4 q5 q6 q1 q2 q3 q4 q5 q6 = some true := by
    simp only [laws_eqSuperResult.f]
    rw [if_neg (by simp), eq1]
    rfl
  exact Ev.bindS eq2 (Ev.pos rfl (Ev.bind tb (Ev.bind (eqByteS_ev l (by omega)) (Ev.pos rfl (Ev.now _)))))

end Go.Proofs.Ytlpjpmfhkmddjaa.Pure
