/- What is proved: the law FnExactValidDisk returns true: at every disk of at most 2^20 cells in all the program's ValidDisk answers as the reference's and leaves its argument alone. Conditions: none (a bigger argument is let by by the law itself). -/
import Derived.Test.YtmjfoickgcapmaaGFnExactValidDiskx4
namespace Go.Proofs.Ytmjfoickgcapmaa.Pure
open Go.RowKit Go.Proofs.Ytmjfoickgcapmaa.GFnExactValidDisk Go.Proofs.YtmjfoickgcapmaaW.PrintWords Go.Proofs.YtmjfoickgcapmaaW.PrintLast Go.Proofs.YtmjfoickgcapmaaW.PrintMore
set_option linter.unusedVariables false
set_option linter.unusedSimpArgs false

theorem w64 {x : Int} (h0 : -9223372036854775808 ≤ x) (h1 : x < 9223372036854775808) : wrap64 x = x := by unfold wrap64; omega
theorem u8_wf {x : Int} (h : (Lit.int .u8 x).wf = true) : 0 ≤ x ∧ x ≤ 255 := by
  simp [Lit.wf, IntKind.min, IntKind.max, IntKind.signed, IntKind.bits] at h
  omega
theorem Ev.pos {α : Type} {c : Prop} [Decidable c] {f g : Nat → Option α} {r : α} (hc : c) (h : Ev f r) : Ev (fun n => if c then f n else g n) r := Ev.congr (fun _ => if_pos hc) h
theorem Ev.neg {α : Type} {c : Prop} [Decidable c] {f g : Nat → Option α} {r : α} (hc : ¬c) (h : Ev g r) : Ev (fun n => if c then f n else g n) r := Ev.congr (fun _ => if_neg hc) h
theorem Ev.ofE {α : Type} {f : Option α} {r : α} (h : f = some r) : Ev (fun _ => f) r := ⟨0, fun _ _ => h⟩
theorem Ev.bindS {α β : Type} {g : Option α} {f : Nat → α → Option β} {a : α} {r : β} (h : g = some a) (k : Ev (fun n => f n a) r) : Ev (fun n => g.bind (f n)) r := Ev.congr (fun _ => by rw [h]; rfl) k
theorem szByteS_e (l : List Int) (a : Int) (hl : l.length ≤ 9223372036854775807) (ha : 0 ≤ a) (ha2 : a ≤ 281474976710656) : ∃ r, laws_szByteS.f l a = some r ∧ (r = -1 ∨ 0 ≤ r ∧ r = a - l.length) := by
  simp only [laws_szByteS.f]
  rw [w64 (by omega) (by omega)]
  by_cases h : a - (l.length : Int) < 0
  · exact ⟨-1, if_pos h, Or.inl rfl⟩
  · exact ⟨_, if_neg h, Or.inr ⟨by omega, rfl⟩⟩
theorem szWrite_e (x : S101) (a : Int) (hl : x.f1.length ≤ 9223372036854775807) (ha : 0 ≤ a) (ha2 : a ≤ 281474976710656) : ∃ r, laws_szWrite.f x.f0 x.f1 a = some r ∧ (r = -1 ∨ 0 ≤ r ∧ r ≤ a ∧ (x.f1.length : Int) ≤ a) := by
  obtain ⟨r, e, h⟩ := szByteS_e x.f1 a hl ha ha2
  simp only [laws_szWrite.f]
  rw [e]
  rcases h with rfl | ⟨h1, h2⟩
  · exact ⟨-1, by simp, Or.inl rfl⟩
  · exact ⟨r, by rw [Option.bind_some, if_neg (by omega)], Or.inr ⟨h1, by omega, by omega⟩⟩
theorem szWriteS_l (l : List S101) (hl : l.length ≤ 9223372036854775807) (hb : ∀ x ∈ l, x.f1.length ≤ 9223372036854775807) (d : Nat) : ∀ (i : Nat) (a : Int), i + d = l.length → 0 ≤ a → a ≤ 281474976710656 → ∃ r, Ev (fun k => laws_szWriteS.l0 k l a i) r ∧ (r = -1 ∨ 0 ≤ r ∧ r ≤ a ∧ ∀ x ∈ l.drop i, (x.f1.length : Int) ≤ a) := by
  induction d with
  | zero =>
    intro i a hi h0 h1
    exact ⟨a, Ev.step (fun k => by simp only [laws_szWriteS.l0]; exact if_neg (by omega)) (Ev.now _), Or.inr ⟨h0, by omega, by rw [List.drop_of_length_le (by omega)]; simp⟩⟩
  | succ d ih =>
    intro i a hi h0 h1
    have e : rd_T101 l i = l[i] := by simp [rd_T101, show i < l.length by omega]
    obtain ⟨r, er, hr⟩ := szWrite_e l[i] a (hb _ (List.getElem_mem _)) h0 h1
    have st : ∀ k, laws_szWriteS.l0 (k + 1) l a i = (if r < 0 then (some (-1)) else (laws_szWriteS.l0 k l r ((i + 1 : Nat) : Int))) := by
      intro k
      simp only [laws_szWriteS.l0]
      rw [if_pos (by omega), if_pos (by omega), e, er, Option.bind_some, w64 (by omega) (by omega)]; rfl
    rcases hr with rfl | ⟨h2, h3, h5⟩
    · exact ⟨-1, Ev.step st (Ev.pos (by omega) (Ev.now _)), Or.inl rfl⟩
    · obtain ⟨r2, e2, h4⟩ := ih (i + 1) r (by omega) h2 (by omega)
      refine ⟨r2, Ev.step st (Ev.neg (by omega) e2), ?_⟩
      rcases h4 with h4 | ⟨h6, h7, h8⟩
      · exact Or.inl h4
      · refine Or.inr ⟨h6, by omega, ?_⟩
        rw [List.drop_eq_getElem_cons (by omega)]
        intro x hx
        rcases List.mem_cons.mp hx with rfl | hx
        · exact h5
        · have := h8 x hx; omega
theorem szWriteS_ev (l : List S101) (a : Int) (hl : l.length ≤ 9223372036854775807) (hb : ∀ x ∈ l, x.f1.length ≤ 9223372036854775807) (ha : 0 ≤ a) (ha2 : a ≤ 281474976710656) : ∃ r, Ev (fun k => laws_szWriteS.f k l a) r ∧ (r = -1 ∨ 0 ≤ r ∧ r + l.length ≤ a ∧ ∀ x ∈ l, (x.f1.length : Int) ≤ a) := by
  by_cases h : a - (l.length : Int) < 0
  · refine ⟨-1, ?_, Or.inl rfl⟩
    simp only [laws_szWriteS.f]
    rw [w64 (by omega) (by omega)]
    exact Ev.pos h (Ev.now _)
  · obtain ⟨r, e, h2⟩ := szWriteS_l l hl hb l.length 0 (a - (l.length : Int)) (by omega) (by omega) (by omega)
    refine ⟨r, ?_, ?_⟩
    rotate_left
    · rcases h2 with h2 | ⟨h3, h4, h5⟩
      · exact Or.inl h2
      · exact Or.inr ⟨h3, by omega, fun x hx => by have := h5 x (by simpa using hx); omega⟩
    simp only [laws_szWriteS.f]
    rw [w64 (by omega) (by omega)]
    exact Ev.neg h e
theorem szDisk_ev (b : List Int) (l : List S101) (a : Int) (hbl : b.length ≤ 9223372036854775807) (hl : l.length ≤ 9223372036854775807) (hb : ∀ x ∈ l, x.f1.length ≤ 9223372036854775807) (ha : 0 ≤ a) (ha2 : a ≤ 281474976710656) : ∃ r, Ev (fun k => laws_szDisk.f k b l a) r ∧ (r = -1 ∨ 0 ≤ r ∧ r + b.length + l.length ≤ a ∧ ∀ x ∈ l, (x.f1.length : Int) ≤ a) := by
  obtain ⟨r, e, h⟩ := szByteS_e b a hbl ha ha2
  rcases h with rfl | ⟨h1, h2⟩
  · refine ⟨-1, ?_, Or.inl rfl⟩
    simp only [laws_szDisk.f]
    exact Ev.bindS e (Ev.pos (by omega) (Ev.now _))
  · obtain ⟨r2, e2, h3⟩ := szWriteS_ev l r hl hb h1 (by omega)
    simp only [laws_szDisk.f]
    rcases h3 with rfl | ⟨h4, h5, h6⟩
    · exact ⟨-1, Ev.bindS e (Ev.neg (by omega) (Ev.bind e2 (Ev.pos (by omega) (Ev.now _)))), Or.inl rfl⟩
    · exact ⟨r2, Ev.bindS e (Ev.neg (by omega) (Ev.bind e2 (Ev.neg (by omega) (Ev.now _)))), Or.inr ⟨h4, by omega, fun x hx => by have := h6 x hx; omega⟩⟩

theorem toByteS_l (x0 : List Int) (hl : x0.length ≤ 281474976710656) (d : Nat) : ∀ (i : Nat) (x3 : List Int), i + d = x0.length → x3.length = x0.length → x3.take i = x0.take i → ∀ k, d < k → laws_toByteS.l0 k x0 x3 i = some x0 := by
  induction d with
  | zero =>
    intro i x3 hi hl3 ht k hk
    obtain ⟨k, rfl⟩ : ∃ m, k = m + 1 := ⟨k - 1, by omega⟩
    simp only [laws_toByteS.l0]
    rw [if_neg (by omega), ← List.take_of_length_le (l := x3) (i := i) (by omega), ht, List.take_of_length_le (by omega)]
  | succ d ih =>
    intro i x3 hi hl3 ht k hk
    obtain ⟨k, rfl⟩ : ∃ m, k = m + 1 := ⟨k - 1, by omega⟩
    simp only [laws_toByteS.l0]
    rw [if_pos (by omega), if_pos (by omega), if_pos (by omega), w64 (by omega) (by omega), Int.toNat_natCast]
    refine ih (i + 1) _ (by omega) (by simpa using hl3) ?_ k (by omega)
    apply List.ext_getElem?
    intro n
    simp only [List.getElem?_take, rd, Int.toNat_natCast]
    by_cases hn : n < i
    · have h1 : (x3.take i)[n]? = (x0.take i)[n]? := by rw [ht]
      simp only [List.getElem?_take, if_pos hn] at h1
      rw [if_pos (by omega), if_pos (by omega), List.getElem?_set_ne (by omega)]; exact h1
    · by_cases hn2 : n = i
      · subst hn2; rw [if_pos (by omega), if_pos (by omega), List.getElem?_set_self (by omega)]
        simp [List.getElem?_eq_getElem (show n < x0.length by omega)]
      · rw [if_neg (by omega), if_neg (by omega)]
theorem toByteS_ev (l : List Int) (hl : l.length ≤ 281474976710656) : Ev (fun k => laws_toByteS.f k l) l := by
  refine ⟨l.length + 1, fun k hk => ?_⟩
  simp only [laws_toByteS.f]
  rw [if_pos (by omega), if_pos (by omega)]
  exact toByteS_l l hl l.length 0 _ (by omega) (by simp) (by simp) k (by omega)

def cvW (x : S101) : S85 := ⟨x.f0, x.f1⟩
theorem toWrite_ev (x : S101) (h : x.f1.length ≤ 281474976710656) : Ev (fun k => laws_toWrite.f k x.f0 x.f1) (x.f0, x.f1) := by
  simp only [laws_toWrite.f]
  exact Ev.bind (toByteS_ev _ h) (Ev.now _)
theorem toWriteS_l (l : List S101) (hl : l.length ≤ 281474976710656) (hb : ∀ x ∈ l, x.f1.length ≤ 281474976710656) (d : Nat) : ∀ (i : Nat) (y : List S85), i + d = l.length → y.length = l.length → y.take i = (l.map cvW).take i → Ev (fun k => laws_toWriteS.l0 k l y i) (l.map cvW) := by
  induction d with
  | zero =>
    intro i y hi hy ht
    refine Ev.step (fun k => by simp only [laws_toWriteS.l0]; exact if_neg (by omega)) ?_
    rw [List.take_of_length_le (by omega), List.take_of_length_le (by simp; omega)] at ht
    rw [ht]; exact Ev.now _
  | succ d ih =>
    intro i y hi hy ht
    refine Ev.step (fun k => by simp only [laws_toWriteS.l0]; rw [if_pos (by omega), if_pos (by omega), w64 (by omega) (by omega), Int.toNat_natCast]) ?_
    have e : rd_T101 l i = l[i] := by simp [rd_T101, show i < l.length by omega]
    rw [e]
    refine Ev.bind (toWrite_ev l[i] (hb _ (List.getElem_mem _))) ?_
    refine Ev.pos (by omega) (ih (i + 1) _ (by omega) (by simpa using hy) ?_)
    rw [List.take_add_one, List.take_add_one, List.take_set_of_le (by omega), ht]
    simp [hy, show i < l.length by omega, cvW]
theorem toWriteS_ev (l : List S101) (hl : l.length ≤ 8796093022208) (hb : ∀ x ∈ l, x.f1.length ≤ 281474976710656) : Ev (fun k => laws_toWriteS.f k l) (l.map cvW) := by
  simp only [laws_toWriteS.f]
  exact Ev.pos (by omega) (Ev.pos (by omega) (toWriteS_l l (by omega) hb l.length 0 _ (by omega) (by simp) (by simp)))
theorem toDisk_ev (a : List Int) (l : List S101) (ha : a.length ≤ 281474976710656) (hl : l.length ≤ 8796093022208) (hb : ∀ x ∈ l, x.f1.length ≤ 281474976710656) : Ev (fun k => laws_toDisk.f k a l) (a, l.map cvW) := by
  simp only [laws_toDisk.f]
  exact Ev.bind (toByteS_ev _ ha) (Ev.bind (toWriteS_ev _ hl hb) (Ev.now _))

theorem eqByteS_l (x : List Int) (hl : x.length ≤ 281474976710656) (d : Nat) : ∀ (i : Nat), i + d = x.length → ∀ k, d < k → laws_eqByteS.l0 k x x i = some true := by
  induction d with
  | zero =>
    intro i hi k hk
    obtain ⟨k, rfl⟩ : ∃ m, k = m + 1 := ⟨k - 1, by omega⟩
    simp only [laws_eqByteS.l0]
    rw [if_neg (by omega)]
  | succ d ih =>
    intro i hi k hk
    obtain ⟨k, rfl⟩ : ∃ m, k = m + 1 := ⟨k - 1, by omega⟩
    simp only [laws_eqByteS.l0]
    rw [if_pos (by omega), if_pos (by omega), if_pos (by omega), if_pos trivial, w64 (by omega) (by omega)]
    exact ih (i + 1) (by omega) k (by omega)
theorem eqByteS_ev (l : List Int) (hl : l.length ≤ 281474976710656) : Ev (fun k => laws_eqByteS.f k l l) true := by
  refine ⟨l.length + 1, fun k hk => ?_⟩
  simp only [laws_eqByteS.f]
  rw [if_pos trivial]
  exact eqByteS_l l hl l.length 0 (by omega) k (by omega)

theorem eqWrite_ev (x : S85) (h : x.f1.length ≤ 281474976710656) : Ev (fun k => laws_eqWrite.f k x.f0 x.f1 x.f0 x.f1) true := by
  simp only [laws_eqWrite.f]
  exact Ev.pos (by trivial) (Ev.bind (eqByteS_ev _ h) (Ev.pos (by trivial) (Ev.now _)))
theorem eqWriteS_l (l : List S85) (hl : l.length ≤ 281474976710656) (hb : ∀ x ∈ l, x.f1.length ≤ 281474976710656) (d : Nat) : ∀ (i : Nat), i + d = l.length → Ev (fun k => laws_eqWriteS.l0 k l l i) true := by
  induction d with
  | zero =>
    intro i hi
    refine Ev.step (fun k => by simp only [laws_eqWriteS.l0]; exact if_neg (by omega)) (Ev.now _)
  | succ d ih =>
    intro i hi
    refine Ev.step (fun k => by simp only [laws_eqWriteS.l0]; rw [if_pos (by omega), if_pos (by omega), if_pos (by omega), w64 (by omega) (by omega)]) ?_
    have e : rd_T85 l i = l[i] := by simp [rd_T85, show i < l.length by omega]
    rw [e]
    refine Ev.bind (eqWrite_ev l[i] (hb _ (List.getElem_mem _))) ?_
    exact Ev.pos (by trivial) (ih (i + 1) (by omega))
theorem eqWriteS_ev (l : List S85) (hl : l.length ≤ 281474976710656) (hb : ∀ x ∈ l, x.f1.length ≤ 281474976710656) : Ev (fun k => laws_eqWriteS.f k l l) true := by
  simp only [laws_eqWriteS.f]
  exact Ev.pos (by trivial) (eqWriteS_l l hl hb l.length 0 (by omega))
theorem eqDisk_ev (a : List Int) (l : List S85) (ha : a.length ≤ 281474976710656) (hl : l.length ≤ 281474976710656) (hb : ∀ x ∈ l, x.f1.length ≤ 281474976710656) : Ev (fun k => laws_eqDisk.f k a l a l) true := by
  simp only [laws_eqDisk.f]
  exact Ev.bind (eqByteS_ev _ ha) (Ev.pos (by trivial) (Ev.bind (eqWriteS_ev _ hl hb) (Ev.pos (by trivial) (Ev.now _))))

def okW (n : Int) (x : S85) : Bool := !(decide (x.f0 < 0)) && !(decide (x.f0 ≥ n)) && decide (x.f1.length = 64)
def validD (b : List Int) (l : List S85) : Bool := decide (b.length % 64 = 0) && decide (1 ≤ b.length / 64) && decide (b.length / 64 ≤ 300) && decide (l.length ≤ 2000) && l.all (okW (b.length / 64 : Nat))
theorem specValid_l (n : Int) (b : List Int) (l : List S85) (hl : l.length ≤ 281474976710656) (d : Nat) : ∀ (i : Nat), i + d = l.length → Ev (fun k => spec_ValidDisk.l0 k n i b l) ((l.drop i).all (okW n)) := by
  induction d with
  | zero =>
    intro i hi
    refine Ev.step (fun k => by simp only [spec_ValidDisk.l0]; exact if_neg (by omega)) ?_
    rw [List.drop_of_length_le (by omega)]; exact Ev.now _
  | succ d ih =>
    intro i hi
    have e : rd_T85 l i = l[i] := by simp [rd_T85, show i < l.length by omega]
    refine Ev.step (fun k => by simp only [spec_ValidDisk.l0]; rw [if_pos (by omega), if_pos (by omega), e, w64 (by omega) (by omega)]) ?_
    rw [List.drop_eq_getElem_cons (by omega), List.all_cons]
    by_cases h1 : l[i].f0 < 0
    · simp only [okW, h1, decide_true, Bool.not_true, Bool.false_and]; exact Ev.pos (by trivial) (Ev.now _)
    by_cases h2 : l[i].f0 ≥ n
    · simp only [okW, h1, h2, decide_true, Bool.not_true, Bool.false_and, Bool.and_false]; exact Ev.neg (by simp) (Ev.pos (by trivial) (Ev.now _))
    by_cases h3 : l[i].f1.length = 64
    · have h3' : (l[i].f1.length : Int) = 64 := by omega
      have : okW n l[i] = true := by simp [okW, h1, h2, h3]
      rw [this, Bool.true_and]
      exact Ev.neg h1 (Ev.neg h2 (Ev.pos h3' (ih (i + 1) (by omega))))
    · have h3' : ¬(l[i].f1.length : Int) = 64 := by omega
      have : okW n l[i] = false := by simp [okW, h3]
      rw [this, Bool.false_and]
      exact Ev.neg h1 (Ev.neg h2 (Ev.neg h3' (Ev.now _)))
theorem implValid_l (n : Int) (l : List S85) (hl : l.length ≤ 281474976710656) (d : Nat) : ∀ (i : Nat), i + d = l.length → Ev (fun k => impl_ValidDisk.l0 k n l (l.length : Int) i) ((l.drop i).all (okW n)) := by
  induction d with
  | zero =>
    intro i hi
    refine Ev.step (fun k => by simp only [impl_ValidDisk.l0]; exact if_neg (by omega)) ?_
    rw [List.drop_of_length_le (by omega)]; exact Ev.now _
  | succ d ih =>
    intro i hi
    have e : rd_T85 l i = l[i] := by simp [rd_T85, show i < l.length by omega]
    refine Ev.step (fun k => by simp only [impl_ValidDisk.l0]; rw [if_pos (by omega), if_pos (by omega), if_pos (by omega), e, w64 (by omega) (by omega)]) ?_
    rw [List.drop_eq_getElem_cons (by omega), List.all_cons]
    by_cases h1 : l[i].f0 < 0
    · simp only [okW, h1, decide_true, Bool.not_true, Bool.false_and]; exact Ev.pos (by trivial) (Ev.now _)
    by_cases h2 : l[i].f0 ≥ n
    · simp only [okW, h1, h2, decide_true, Bool.not_true, Bool.false_and, Bool.and_false]; exact Ev.neg (by simp) (Ev.pos (by trivial) (Ev.now _))
    by_cases h3 : l[i].f1.length = 64
    · have h3' : (l[i].f1.length : Int) = 64 := by omega
      have : okW n l[i] = true := by simp [okW, h1, h2, h3]
      rw [this, Bool.true_and]
      exact Ev.neg h1 (Ev.neg h2 (Ev.pos h3' (ih (i + 1) (by omega))))
    · have h3' : ¬(l[i].f1.length : Int) = 64 := by omega
      have : okW n l[i] = false := by simp [okW, h3]
      rw [this, Bool.false_and]
      exact Ev.neg h1 (Ev.neg h2 (Ev.neg h3' (Ev.now _)))
theorem specValid_ev (b : List Int) (l : List S85) (hb : b.length ≤ 281474976710656) (hl : l.length ≤ 281474976710656) : Ev (fun k => spec_ValidDisk.f k b l) (validD b l) := by
  have e : spec_l1Blocks.f b l = some ((b.length / 64 : Nat) : Int) := by simp only [spec_l1Blocks.f]; rw [w64 (by omega) (by omega)]; rfl
  simp only [spec_ValidDisk.f]
  refine Ev.bindS e ?_
  have j1 : Ev (fun k => spec_ValidDisk.j0 k ((b.length / 64 : Nat) : Int) true b l) false := Ev.step (fun k => by simp only [spec_ValidDisk.j0]; exact if_pos trivial) (Ev.now _)
  by_cases nh1 : ¬(b.length % 64 = 0)
  · have h1 := nh1
    have : validD b l = false := by simp [validD, h1]
    rw [this]; exact Ev.neg (by omega) j1
  have h1 : b.length % 64 = 0 := by omega
  refine Ev.pos (by omega) ?_
  by_cases nh2 : ¬(1 ≤ b.length / 64)
  · have h2 := nh2
    have : validD b l = false := by simp [validD, h2]
    rw [this]; exact Ev.pos (by omega) j1
  have h2 : 1 ≤ b.length / 64 := by omega
  refine Ev.neg (by omega) ?_
  by_cases nh3 : ¬(b.length / 64 ≤ 300)
  · have h3 := nh3
    have : validD b l = false := by simp [validD, h3]
    rw [this]; exact Ev.pos (by omega) j1
  have h3 : b.length / 64 ≤ 300 := by omega
  refine Ev.neg (by omega) ?_
  by_cases nh4 : ¬(l.length ≤ 2000)
  · have h4 := nh4
    have : validD b l = false := by simp [validD, h4]
    rw [this]; rw [decide_eq_true (by omega)]; exact j1
  have h4 : l.length ≤ 2000 := by omega
  rw [decide_eq_false (by omega)]
  have : validD b l = (l.drop 0).all (okW (b.length / 64 : Nat)) := by simp only [validD, h1, h2, h3, h4, decide_true, Bool.true_and, List.drop_zero]
  rw [this]
  exact Ev.step (fun k => by simp only [spec_ValidDisk.j0]; exact if_neg (by simp)) (specValid_l _ b l hl l.length 0 (by omega))
theorem implValid_ev (b : List Int) (l : List S85) (hb : b.length ≤ 281474976710656) (hl : l.length ≤ 281474976710656) : Ev (fun k => impl_ValidDisk.f k b l) (validD b l) := by
  have e : impl_Disk_blocks.f b l = some ((b.length / 64 : Nat) : Int) := by simp only [impl_Disk_blocks.f]; rw [w64 (by omega) (by omega)]; rfl
  simp only [impl_ValidDisk.f]
  refine Ev.bindS e ?_
  have j1 : Ev (fun k => impl_ValidDisk.j0 k ((b.length / 64 : Nat) : Int) true b l) false := Ev.step (fun k => by simp only [impl_ValidDisk.j0]; exact if_pos trivial) (Ev.now _)
  by_cases nh1 : ¬(b.length % 64 = 0)
  · have h1 := nh1
    have : validD b l = false := by simp [validD, h1]
    rw [this]; exact Ev.neg (by omega) j1
  have h1 : b.length % 64 = 0 := by omega
  refine Ev.pos (by omega) ?_
  by_cases nh2 : ¬(1 ≤ b.length / 64)
  · have h2 := nh2
    have : validD b l = false := by simp [validD, h2]
    rw [this]; exact Ev.pos (by omega) j1
  have h2 : 1 ≤ b.length / 64 := by omega
  refine Ev.neg (by omega) ?_
  by_cases nh3 : ¬(b.length / 64 ≤ 300)
  · have h3 := nh3
    have : validD b l = false := by simp [validD, h3]
    rw [this]; exact Ev.pos (by omega) j1
  have h3 : b.length / 64 ≤ 300 := by omega
  refine Ev.neg (by omega) ?_
  by_cases nh4 : ¬(l.length ≤ 2000)
  · have h4 := nh4
    have : validD b l = false := by simp [validD, h4]
    rw [this]; rw [decide_eq_true (by omega)]; exact j1
  have h4 : l.length ≤ 2000 := by omega
  rw [decide_eq_false (by omega)]
  have : validD b l = (l.drop 0).all (okW (b.length / 64 : Nat)) := by simp only [validD, h1, h2, h3, h4, decide_true, Bool.true_and, List.drop_zero]
  rw [this]
  exact Ev.step (fun k => by simp only [impl_ValidDisk.j0]; exact if_neg (by simp)) (implValid_l _ l hl l.length 0 (by omega))

theorem FnExactValidDisk : laws_FnExactValidDisk.Pure := by
  intro b l hb hl
  simp only [maxLen] at hb hl
  obtain ⟨r, e, h⟩ := szDisk_ev b l 1048576 (by have := hb.1; omega) (by have := hl.1; omega) (fun x hx => by have := (hl.2 x hx).2.1; omega) (by omega) (by omega)
  apply Ev.rounds
  simp only [laws_FnExactValidDisk.f]
  refine Ev.bind e ?_
  by_cases hr : r < 0
  · exact Ev.pos hr (Ev.now _)
  refine Ev.neg hr ?_
  obtain ⟨h0, h1, h2⟩ : 0 ≤ r ∧ r + b.length + l.length ≤ 1048576 ∧ ∀ x ∈ l, (x.f1.length : Int) ≤ 1048576 := by
    rcases h with h | h
    · omega
    · exact h
  have hbl : b.length ≤ 281474976710656 := by omega
  have hll : l.length ≤ 281474976710656 := by omega
  have hx : ∀ x ∈ l, x.f1.length ≤ 281474976710656 := fun x hx => by have := h2 x hx; omega
  have hm : ∀ x ∈ l.map cvW, x.f1.length ≤ 281474976710656 := by
    intro x hx2; obtain ⟨y, hy, rfl⟩ := List.mem_map.mp hx2; exact hx y hy
  have t := toDisk_ev b l hbl (by omega) hx
  refine Ev.bind t (Ev.bind (specValid_ev b (l.map cvW) hbl (by simpa using hll)) (Ev.bind t (Ev.bind (implValid_ev b (l.map cvW) hbl (by simpa using hll)) ?_)))
  refine Ev.neg (by simp) (Ev.bind t (Ev.bind (eqDisk_ev b _ hbl (by simpa using hll) hm) (Ev.pos (by trivial) (Ev.now _))))

end Go.Proofs.Ytmjfoickgcapmaa.Pure
