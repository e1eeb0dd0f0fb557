/- What is proved: the law FnExactAreaBytes returns true: at every disk, configuration, bank and choice of area the program's AreaBytes answers as the reference's, leaves its argument alone, and its answer owns its memory. Conditions: none (where the law looks at a bigger disk it returns true by itself). -/
import Derived.Test.YtlpjpmfhkmddjaaGFnExactAreaBytesx14
namespace Go.Proofs.Ytlpjpmfhkmddjaa.Pure
open Go.RowKit Go.Proofs.Ytlpjpmfhkmddjaa.GFnExactAreaBytes Go.Proofs.YtlpjpmfhkmddjaaW.PrintWords Go.Proofs.YtlpjpmfhkmddjaaW.PrintLast Go.Proofs.YtlpjpmfhkmddjaaW.PrintMore
set_option linter.unusedVariables false
set_option linter.unusedSimpArgs false

theorem w64 {x : Int} (h0 : -9223372036854775808 ≤ x) (h1 : x < 9223372036854775808) : wrap64 x = x := by unfold wrap64; omega
theorem u8_wf {x : Int} (h : (Lit.int .u8 x).wf = true) : 0 ≤ x ∧ x ≤ 255 := by
  simp [Lit.wf, IntKind.min, IntKind.max, IntKind.signed, IntKind.bits] at h
  omega
theorem Ev.pos {α : Type} {c : Prop} [Decidable c] {f g : Nat → Option α} {r : α} (hc : c) (h : Ev f r) : Ev (fun n => if c then f n else g n) r := Ev.congr (fun _ => if_pos hc) h
theorem Ev.neg {α : Type} {c : Prop} [Decidable c] {f g : Nat → Option α} {r : α} (hc : ¬c) (h : Ev g r) : Ev (fun n => if c then f n else g n) r := Ev.congr (fun _ => if_neg hc) h
theorem Ev.ofE {α : Type} {f : Option α} {r : α} (h : f = some r) : Ev (fun _ => f) r := ⟨0, fun _ _ => h⟩
theorem Ev.bindS {α β : Type} {g : Option α} {f : Nat → α → Option β} {a : α} {r : β} (h : g = some a) (k : Ev (fun n => f n a) r) : Ev (fun n => g.bind (f n)) r := Ev.congr (fun _ => by rw [h]; rfl) k
theorem szByteS_e (l : List Int) (a : Int) (hl : l.length ≤ 9223372036854775807) (ha : 0 ≤ a) (ha2 : a ≤ 281474976710656) : ∃ r, laws_szByteS.f l a = some r ∧ (r = -1 ∨ 0 ≤ r ∧ r = a - l.length) := by
  simp only [laws_szByteS.f]
  rw [w64 (by omega) (by omega)]
  by_cases h : a - (l.length : Int) < 0
  · exact ⟨-1, if_pos h, Or.inl rfl⟩
  · exact ⟨_, if_neg h, Or.inr ⟨by omega, rfl⟩⟩
theorem szWrite_e (x : S111) (a : Int) (hl : x.f1.length ≤ 9223372036854775807) (ha : 0 ≤ a) (ha2 : a ≤ 281474976710656) : ∃ r, laws_szWrite.f x.f0 x.f1 a = some r ∧ (r = -1 ∨ 0 ≤ r ∧ r ≤ a ∧ (x.f1.length : Int) ≤ a) := by
  obtain ⟨r, e, h⟩ := szByteS_e x.f1 a hl ha ha2
  simp only [laws_szWrite.f]
  rw [e]
  rcases h with rfl | ⟨h1, h2⟩
  · exact ⟨-1, by simp, Or.inl rfl⟩
  · exact ⟨r, by rw [Option.bind_some, if_neg (by omega)], Or.inr ⟨h1, by omega, by omega⟩⟩
theorem szWriteS_l (l : List S111) (hl : l.length ≤ 9223372036854775807) (hb : ∀ x ∈ l, x.f1.length ≤ 9223372036854775807) (d : Nat) : ∀ (i : Nat) (a : Int), i + d = l.length → 0 ≤ a → a ≤ 281474976710656 → ∃ r, Ev (fun k => laws_szWriteS.l0 k l a i) r ∧ (r = -1 ∨ 0 ≤ r ∧ r ≤ a ∧ ∀ x ∈ l.drop i, (x.f1.length : Int) ≤ a) := by
  induction d with
  | zero =>
    intro i a hi h0 h1
    exact ⟨a, Ev.step (fun k => by simp only [laws_szWriteS.l0]; exact if_neg (by omega)) (Ev.now _), Or.inr ⟨h0, by omega, by rw [List.drop_of_length_le (by omega)]; simp⟩⟩
  | succ d ih =>
    intro i a hi h0 h1
    have e : rd_T111 l i = l[i] := by simp [rd_T111, show i < l.length by omega]
    obtain ⟨r, er, hr⟩ := szWrite_e l[i] a (hb _ (List.getElem_mem _)) h0 h1
    have st : ∀ k, laws_szWriteS.l0 (k + 1) l a i = (if r < 0 then (some (-1)) else (laws_szWriteS.l0 k l r ((i + 1 : Nat) : Int))) := by
      intro k
      simp only [laws_szWriteS.l0]
      rw [if_pos (by omega), if_pos (by omega), e, er, Option.bind_some, w64 (by omega) (by omega)]; rfl
    rcases hr with rfl | ⟨h2, h3, h5⟩
    · exact ⟨-1, Ev.step st (Ev.pos (by omega) (Ev.now _)), Or.inl rfl⟩
    · obtain ⟨r2, e2, h4⟩ := ih (i + 1) r (by omega) h2 (by omega)
      refine ⟨r2, Ev.step st (Ev.neg (by omega) e2), ?_⟩
      rcases h4 with h4 | ⟨h6, h7, h8⟩
      · exact Or.inl h4
      · refine Or.inr ⟨h6, by omega, ?_⟩
        rw [List.drop_eq_getElem_cons (by omega)]
        intro x hx
        rcases List.mem_cons.mp hx with rfl | hx
        · exact h5
        · have := h8 x hx; omega
theorem szWriteS_ev (l : List S111) (a : Int) (hl : l.length ≤ 9223372036854775807) (hb : ∀ x ∈ l, x.f1.length ≤ 9223372036854775807) (ha : 0 ≤ a) (ha2 : a ≤ 281474976710656) : ∃ r, Ev (fun k => laws_szWriteS.f k l a) r ∧ (r = -1 ∨ 0 ≤ r ∧ r + l.length ≤ a ∧ ∀ x ∈ l, (x.f1.length : Int) ≤ a) := by
  by_cases h : a - (l.length : Int) < 0
  · refine ⟨-1, ?_, Or.inl rfl⟩
    simp only [laws_szWriteS.f]
    rw [w64 (by omega) (by omega)]
    exact Ev.pos h (Ev.now _)
  · obtain ⟨r, e, h2⟩ := szWriteS_l l hl hb l.length 0 (a - (l.length : Int)) (by omega) (by omega) (by omega)
    refine ⟨r, ?_, ?_⟩
    rotate_left
    · rcases h2 with h2 | ⟨h3, h4, h5⟩
      · exact Or.inl h2
      · exact Or.inr ⟨h3, by omega, fun x hx => by have := h5 x (by simpa using hx); omega⟩
    simp only [laws_szWriteS.f]
    rw [w64 (by omega) (by omega)]
    exact Ev.neg h e
theorem szDisk_ev (b : List Int) (l : List S111) (a : Int) (hbl : b.length ≤ 9223372036854775807) (hl : l.length ≤ 9223372036854775807) (hb : ∀ x ∈ l, x.f1.length ≤ 9223372036854775807) (ha : 0 ≤ a) (ha2 : a ≤ 281474976710656) : ∃ r, Ev (fun k => laws_szDisk.f k b l a) r ∧ (r = -1 ∨ 0 ≤ r ∧ r + b.length + l.length ≤ a ∧ ∀ x ∈ l, (x.f1.length : Int) ≤ a) := by
  obtain ⟨r, e, h⟩ := szByteS_e b a hbl ha ha2
  rcases h with rfl | ⟨h1, h2⟩
  · refine ⟨-1, ?_, Or.inl rfl⟩
    simp only [laws_szDisk.f]
    exact Ev.bindS e (Ev.pos (by omega) (Ev.now _))
  · obtain ⟨r2, e2, h3⟩ := szWriteS_ev l r hl hb h1 (by omega)
    simp only [laws_szDisk.f]
    rcases h3 with rfl | ⟨h4, h5, h6⟩
    · exact ⟨-1, Ev.bindS e (Ev.neg (by omega) (Ev.bind e2 (Ev.pos (by omega) (Ev.now _)))), Or.inl rfl⟩
    · exact ⟨r2, Ev.bindS e (Ev.neg (by omega) (Ev.bind e2 (Ev.neg (by omega) (Ev.now _)))), Or.inr ⟨h4, by omega, fun x hx => by have := h6 x hx; omega⟩⟩

theorem toByteS_l (x0 : List Int) (hl : x0.length ≤ 281474976710656) (d : Nat) : ∀ (i : Nat) (x3 : List Int), i + d = x0.length → x3.length = x0.length → x3.take i = x0.take i → ∀ k, d < k → laws_toByteS.l0 k x0 x3 i = some x0 := by
  induction d with
  | zero =>
    intro i x3 hi hl3 ht k hk
    obtain ⟨k, rfl⟩ : ∃ m, k = m + 1 := ⟨k - 1, by omega⟩
    simp only [laws_toByteS.l0]
    rw [if_neg (by omega), ← List.take_of_length_le (l := x3) (i := i) (by omega), ht, List.take_of_length_le (by omega)]
  | succ d ih =>
    intro i x3 hi hl3 ht k hk
    obtain ⟨k, rfl⟩ : ∃ m, k = m + 1 := ⟨k - 1, by omega⟩
    simp only [laws_toByteS.l0]
    rw [if_pos (by omega), if_pos (by omega), if_pos (by omega), w64 (by omega) (by omega), Int.toNat_natCast]
    refine ih (i + 1) _ (by omega) (by simpa using hl3) ?_ k (by omega)
    apply List.ext_getElem?
    intro n
    simp only [List.getElem?_take, rd, Int.toNat_natCast]
    by_cases hn : n < i
    · have h1 : (x3.take i)[n]? = (x0.take i)[n]? := by rw [ht]
      simp only [List.getElem?_take, if_pos hn] at h1
      rw [if_pos (by omega), if_pos (by omega), List.getElem?_set_ne (by omega)]; exact h1
    · by_cases hn2 : n = i
      · subst hn2; rw [if_pos (by omega), if_pos (by omega), List.getElem?_set_self (by omega)]
        simp [List.getElem?_eq_getElem (show n < x0.length by omega)]
      · rw [if_neg (by omega), if_neg (by omega)]
theorem toByteS_ev (l : List Int) (hl : l.length ≤ 281474976710656) : Ev (fun k => laws_toByteS.f k l) l := by
  refine ⟨l.length + 1, fun k hk => ?_⟩
  simp only [laws_toByteS.f]
  rw [if_pos (by omega), if_pos (by omega)]
  exact toByteS_l l hl l.length 0 _ (by omega) (by simp) (by simp) k (by omega)

def cvW (x : S111) : S82 := ⟨x.f0, x.f1⟩
theorem toWrite_ev (x : S111) (h : x.f1.length ≤ 281474976710656) : Ev (fun k => laws_toWrite.f k x.f0 x.f1) (x.f0, x.f1) := by
  simp only [laws_toWrite.f]
  exact Ev.bind (toByteS_ev _ h) (Ev.now _)
theorem toWriteS_l (l : List S111) (hl : l.length ≤ 281474976710656) (hb : ∀ x ∈ l, x.f1.length ≤ 281474976710656) (d : Nat) : ∀ (i : Nat) (y : List S82), i + d = l.length → y.length = l.length → y.take i = (l.map cvW).take i → Ev (fun k => laws_toWriteS.l0 k l y i) (l.map cvW) := by
  induction d with
  | zero =>
    intro i y hi hy ht
    refine Ev.step (fun k => by simp only [laws_toWriteS.l0]; exact if_neg (by omega)) ?_
    rw [List.take_of_length_le (by omega), List.take_of_length_le (by simp; omega)] at ht
    rw [ht]; exact Ev.now _
  | succ d ih =>
    intro i y hi hy ht
    refine Ev.step (fun k => by simp only [laws_toWriteS.l0]; rw [if_pos (by omega), if_pos (by omega), w64 (by omega) (by omega), Int.toNat_natCast]) ?_
    have e : rd_T111 l i = l[i] := by simp [rd_T111, show i < l.length by omega]
    rw [e]
    refine Ev.bind (toWrite_ev l[i] (hb _ (List.getElem_mem _))) ?_
    refine Ev.pos (by omega) (ih (i + 1) _ (by omega) (by simpa using hy) ?_)
    rw [List.take_add_one, List.take_add_one, List.take_set_of_le (by omega), ht]
    simp [hy, show i < l.length by omega, cvW]
theorem toWriteS_ev (l : List S111) (hl : l.length ≤ 8796093022208) (hb : ∀ x ∈ l, x.f1.length ≤ 281474976710656) : Ev (fun k => laws_toWriteS.f k l) (l.map cvW) := by
  simp only [laws_toWriteS.f]
  exact Ev.pos (by omega) (Ev.pos (by omega) (toWriteS_l l (by omega) hb l.length 0 _ (by omega) (by simp) (by simp)))
theorem toDisk_ev (a : List Int) (l : List S111) (ha : a.length ≤ 281474976710656) (hl : l.length ≤ 8796093022208) (hb : ∀ x ∈ l, x.f1.length ≤ 281474976710656) : Ev (fun k => laws_toDisk.f k a l) (a, l.map cvW) := by
  simp only [laws_toDisk.f]
  exact Ev.bind (toByteS_ev _ ha) (Ev.bind (toWriteS_ev _ hl hb) (Ev.now _))

theorem eqByteS_l (x : List Int) (hl : x.length ≤ 281474976710656) (d : Nat) : ∀ (i : Nat), i + d = x.length → ∀ k, d < k → laws_eqByteS.l0 k x x i = some true := by
  induction d with
  | zero =>
    intro i hi k hk
    obtain ⟨k, rfl⟩ : ∃ m, k = m + 1 := ⟨k - 1, by omega⟩
    simp only [laws_eqByteS.l0]
    rw [if_neg (by omega)]
  | succ d ih =>
    intro i hi k hk
    obtain ⟨k, rfl⟩ : ∃ m, k = m + 1 := ⟨k - 1, by omega⟩
    simp only [laws_eqByteS.l0]
    rw [if_pos (by omega), if_pos (by omega), if_pos (by omega), if_pos trivial, w64 (by omega) (by omega)]
    exact ih (i + 1) (by omega) k (by omega)
theorem eqByteS_ev (l : List Int) (hl : l.length ≤ 281474976710656) : Ev (fun k => laws_eqByteS.f k l l) true := by
  refine ⟨l.length + 1, fun k hk => ?_⟩
  simp only [laws_eqByteS.f]
  rw [if_pos trivial]
  exact eqByteS_l l hl l.length 0 (by omega) k (by omega)

theorem eqWrite_ev (x : S82) (h : x.f1.length ≤ 281474976710656) : Ev (fun k => laws_eqWrite.f k x.f0 x.f1 x.f0 x.f1) true := by
  simp only [laws_eqWrite.f]
  exact Ev.pos (by trivial) (Ev.bind (eqByteS_ev _ h) (Ev.pos (by trivial) (Ev.now _)))
theorem eqWriteS_l (l : List S82) (hl : l.length ≤ 281474976710656) (hb : ∀ x ∈ l, x.f1.length ≤ 281474976710656) (d : Nat) : ∀ (i : Nat), i + d = l.length → Ev (fun k => laws_eqWriteS.l0 k l l i) true := by
  induction d with
  | zero =>
    intro i hi
    refine Ev.step (fun k => by simp only [laws_eqWriteS.l0]; exact if_neg (by omega)) (Ev.now _)
  | succ d ih =>
    intro i hi
    refine Ev.step (fun k => by simp only [laws_eqWriteS.l0]; rw [if_pos (by omega), if_pos (by omega), if_pos (by omega), w64 (by omega) (by omega)]) ?_
    have e : rd_T82 l i = l[i] := by simp [rd_T82, show i < l.length by omega]
    rw [e]
    refine Ev.bind (eqWrite_ev l[i] (hb _ (List.getElem_mem _))) ?_
    exact Ev.pos (by trivial) (ih (i + 1) (by omega))
theorem eqWriteS_ev (l : List S82) (hl : l.length ≤ 281474976710656) (hb : ∀ x ∈ l, x.f1.length ≤ 281474976710656) : Ev (fun k => laws_eqWriteS.f k l l) true := by
  simp only [laws_eqWriteS.f]
  exact Ev.pos (by trivial) (eqWriteS_l l hl hb l.length 0 (by omega))
theorem eqDisk_ev (a : List Int) (l : List S82) (ha : a.length ≤ 281474976710656) (hl : l.length ≤ 281474976710656) (hb : ∀ x ∈ l, x.f1.length ≤ 281474976710656) : Ev (fun k => laws_eqDisk.f k a l a l) true := by
  simp only [laws_eqDisk.f]
  exact Ev.bind (eqByteS_ev _ ha) (Ev.pos (by trivial) (Ev.bind (eqWriteS_ev _ hl hb) (Ev.pos (by trivial) (Ev.now _))))

theorem Ex.step {α : Type} {g f : Nat → Option α} {Q : α → Prop} (hs : ∀ k, g (k + 1) = f k) (h : ∃ r, Q r ∧ Ev f r) : ∃ r, Q r ∧ Ev g r := by obtain ⟨r, q, e⟩ := h; exact ⟨r, q, Ev.step hs e⟩
theorem Ex.bind {α β : Type} {g : Nat → Option α} {f : Nat → α → Option β} {a : α} {Q : β → Prop} (h : Ev g a) (k : ∃ r, Q r ∧ Ev (fun n => f n a) r) : ∃ r, Q r ∧ Ev (fun n => (g n).bind (f n)) r := by obtain ⟨r, q, e⟩ := k; exact ⟨r, q, Ev.bind h e⟩
theorem Ex.pos {α : Type} {c : Prop} [Decidable c] {f g : Nat → Option α} {Q : α → Prop} (hc : c) (h : ∃ r, Q r ∧ Ev f r) : ∃ r, Q r ∧ Ev (fun n => if c then f n else g n) r := by obtain ⟨r, q, e⟩ := h; exact ⟨r, q, Ev.pos hc e⟩
theorem Ex.neg {α : Type} {c : Prop} [Decidable c] {f g : Nat → Option α} {Q : α → Prop} (hc : ¬c) (h : ∃ r, Q r ∧ Ev g r) : ∃ r, Q r ∧ Ev (fun n => if c then f n else g n) r := by obtain ⟨r, q, e⟩ := h; exact ⟨r, q, Ev.neg hc e⟩
theorem Ex.set {α β : Type} {x : List α} {j : Nat} {v : α} {f : Nat → List α → Option β} {Q : β → Prop} (h : ∀ y : List α, y.length = x.length → ∃ r, Q r ∧ Ev (fun n => f n y) r) : ∃ r, Q r ∧ Ev (fun n => (some (x.set j v)).bind (f n)) r := by obtain ⟨r, q, e⟩ := h (x.set j v) (by simp); exact ⟨r, q, Ev.bindS rfl e⟩
theorem Ex.now {α : Type} {Q : α → Prop} (r : α) (h : Q r) : ∃ r, Q r ∧ Ev (fun _ => some r) r := ⟨r, h, Ev.now r⟩
def markB (a : Int) (l : List Int) : List Int := (List.range l.length).map fun i : Nat => (a + (i : Int)) % 256
theorem markByteS_l (a : Int) (ha : 0 ≤ a) (ha2 : a ≤ 4611686018427387904) (n : Nat) (hl : n ≤ 281474976710656) (d : Nat) : ∀ (i : Nat) (x : List Int), i + d = n → x.length = n → x.take i = (List.range i).map (fun i : Nat => (a + (i : Int)) % 256) → ∀ k, d < k → laws_markByteS.l0 k x (a + i) i = some (a + n, (List.range n).map fun i : Nat => (a + (i : Int)) % 256) := by
  induction d with
  | zero =>
    intro i x hi hx ht k hk
    obtain ⟨k, rfl⟩ : ∃ m, k = m + 1 := ⟨k - 1, by omega⟩
    simp only [laws_markByteS.l0]
    rw [if_neg (by omega)]
    rw [List.take_of_length_le (by omega)] at ht
    obtain rfl : i = n := by omega
    rw [ht]
  | succ d ih =>
    intro i x hi hx ht k hk
    obtain ⟨k, rfl⟩ : ∃ m, k = m + 1 := ⟨k - 1, by omega⟩
    simp only [laws_markByteS.l0]
    rw [if_pos (by omega), if_pos (by omega), w64 (by omega) (by omega), w64 (by omega) (by omega), Int.toNat_natCast]
    have e1 : a + (i : Int) + 1 = a + ((i + 1 : Nat) : Int) := by omega
    have e2 : (i : Int) + 1 = ((i + 1 : Nat) : Int) := by omega
    rw [e1, e2]
    refine ih (i + 1) _ (by omega) (by simpa using hx) ?_ k (by omega)
    rw [List.range_succ, List.map_append, ← ht, List.take_add_one]
    simp [List.take_set_of_le, hx, show i < n by omega]
theorem markByteS_ev (a : Int) (ha : 0 ≤ a) (ha2 : a ≤ 4611686018427387904) (l : List Int) (hl : l.length ≤ 281474976710656) : Ev (fun k => laws_markByteS.f k l a) (a + l.length, markB a l) := by
  refine ⟨l.length + 1, fun k hk => ?_⟩
  simp only [laws_markByteS.f]
  have := markByteS_l a ha ha2 l.length hl l.length 0 l (by omega) rfl (by simp) k (by omega)
  simpa [markB] using this
theorem heldByteS_l (a : Int) (ha : 0 ≤ a) (ha2 : a ≤ 4611686018427387904) (l : List Int) (hl : l.length ≤ 281474976710656) (d : Nat) : ∀ (i : Nat), i + d = l.length → ∀ k, d < k → laws_heldByteS.l0 k (markB a l) (a + i) i = some (a + l.length) := by
  have hml : (markB a l).length = l.length := by simp [markB]
  induction d with
  | zero =>
    intro i hi k hk
    obtain ⟨k, rfl⟩ : ∃ m, k = m + 1 := ⟨k - 1, by omega⟩
    simp only [laws_heldByteS.l0]
    rw [if_neg (by omega)]
    obtain rfl : i = l.length := by omega
    rfl
  | succ d ih =>
    intro i hi k hk
    obtain ⟨k, rfl⟩ : ∃ m, k = m + 1 := ⟨k - 1, by omega⟩
    simp only [laws_heldByteS.l0]
    have hrd : rd (markB a l) i = (a + (i : Int)) % 256 := by simp [rd, markB, show i < l.length by omega]
    rw [if_pos (by omega), if_pos (by omega), if_pos hrd, w64 (by omega) (by omega), w64 (by omega) (by omega)]
    have e1 : a + (i : Int) + 1 = a + ((i + 1 : Nat) : Int) := by omega
    have e2 : (i : Int) + 1 = ((i + 1 : Nat) : Int) := by omega
    rw [e1, e2]
    exact ih (i + 1) (by omega) k (by omega)
theorem heldByteS_ev (a : Int) (ha : 0 ≤ a) (ha2 : a ≤ 4611686018427387904) (l : List Int) (hl : l.length ≤ 281474976710656) : Ev (fun k => laws_heldByteS.f k (markB a l) a) (a + l.length) := by
  refine ⟨l.length + 1, fun k hk => ?_⟩
  simp only [laws_heldByteS.f]
  have := heldByteS_l a ha ha2 l hl l.length 0 (by omega) k (by omega)
  simpa using this


theorem markWriteS_l (d : Nat) : ∀ (i : Nat) (y : List S82) (a : Int), i + d = y.length → y.length ≤ 1048576 → (∀ j : Nat, i ≤ j → j < y.length → (rd_T82 y j).f1.length ≤ 1048576) → 0 ≤ a → a + d * 1048577 ≤ 4611686018427387904 → ∃ r : Int × List S82, 0 ≤ r.1 ∧ Ev (fun k => laws_markWriteS.l0 k y a i) r := by
  induction d with
  | zero =>
    intro i y a hi hy hb ha ha2
    exact Ex.step (fun k => by simp only [laws_markWriteS.l0]; exact if_neg (by omega)) ⟨(a, y), ha, Ev.now _⟩
  | succ d ih =>
    intro i y a hi hy hb ha ha2
    have hl := hb i (by omega) (by omega)
    refine Ex.step (fun k => by simp only [laws_markWriteS.l0]; rw [if_pos (by omega), if_pos (by omega), w64 (by omega) (by omega), w64 (by omega) (by omega), Int.toNat_natCast]) ?_
    refine Ex.bind (markByteS_ev (a + 1) (by omega) (by omega) _ (by omega)) ?_
    refine ih (i + 1) _ _ (by simp; omega) (by simpa using hy) (fun j h1 h2 => ?_) (by simp only; omega) (by simp only; omega)
    have hj : rd_T82 ((y.set i ⟨a, (rd_T82 y i).f1⟩).set i ⟨a, markB (a + 1) (rd_T82 y i).f1⟩) j = rd_T82 y j := by
      unfold rd_T82
      rw [Int.toNat_natCast]
      simp only [List.getD_eq_getElem?_getD]
      rw [List.getElem?_set_ne (by omega), List.getElem?_set_ne (by omega)]
    rw [hj]
    exact hb j (by omega) (by simpa using h2)
theorem markDisk_ev (b : List Int) (l : List S82) (hb : b.length ≤ 1048576) (hl : l.length ≤ 1048576) (hx : ∀ x ∈ l, x.f1.length ≤ 1048576) : ∃ r : Int × List Int × List S82, 0 ≤ r.1 ∧ Ev (fun k => laws_markDisk.f k b l 1) r := by
  simp only [laws_markDisk.f]
  refine Ex.bind (markByteS_ev 1 (by omega) (by omega) b (by omega)) ?_
  obtain ⟨r, h0, hr⟩ := markWriteS_l l.length 0 l (1 + b.length) (by omega) hl (fun j _ hj => by have := hx (l[j]) (List.getElem_mem hj); simpa [rd_T82, hj] using this) (by omega) (by omega)
  exact Ex.bind (a := r) hr ⟨_, h0, Ev.now _⟩
theorem l1Copy_l (l : List Int) (hl : l.length ≤ 1099511627776) (d : Nat) : ∀ (i : Nat) (x : List Int), i + d = l.length → x = l.take i → Ev (fun k => spec_l1Copy.l0 k l x i) l := by
  induction d with
  | zero =>
    intro i x hi hx
    refine Ev.step (fun k => by simp only [spec_l1Copy.l0]; exact if_neg (by omega)) ?_
    rw [hx, List.take_of_length_le (by omega)]; exact Ev.now _
  | succ d ih =>
    intro i x hi hx
    have hxl : x.length ≤ i := by rw [hx, List.length_take]; omega
    refine Ev.step (fun k => by simp only [spec_l1Copy.l0]; rw [if_pos (by omega), if_pos (by omega), if_pos (by omega), w64 (by omega) (by omega)]) ?_
    refine ih (i + 1) _ (by omega) ?_
    have : rd l (i : Int) = l[i] := by unfold rd; simp [show i < l.length by omega]
    rw [hx, List.take_add_one, List.getElem?_eq_getElem (by omega), this]
    simp
theorem l1Copy_ev (l : List Int) (hl : l.length ≤ 1099511627776) : Ev (fun k => spec_l1Copy.f k l) l := l1Copy_l l hl l.length 0 [] (by omega) rfl
def okW (n : Int) (x : S82) : Bool := !(decide (x.f0 < 0)) && !(decide (x.f0 ≥ n)) && decide (x.f1.length = 64)
def validD (b : List Int) (l : List S82) : Bool := decide (b.length % 64 = 0) && decide (1 ≤ b.length / 64) && decide (b.length / 64 ≤ 300) && decide (l.length ≤ 2000) && l.all (okW (b.length / 64 : Nat))
theorem specValid_l (n : Int) (b : List Int) (l : List S82) (hl : l.length ≤ 281474976710656) (d : Nat) : ∀ (i : Nat), i + d = l.length → Ev (fun k => spec_ValidDisk.l0 k n i b l) ((l.drop i).all (okW n)) := by
  induction d with
  | zero =>
    intro i hi
    refine Ev.step (fun k => by simp only [spec_ValidDisk.l0]; exact if_neg (by omega)) ?_
    rw [List.drop_of_length_le (by omega)]; exact Ev.now _
  | succ d ih =>
    intro i hi
    have e : rd_T82 l i = l[i] := by simp [rd_T82, show i < l.length by omega]
    refine Ev.step (fun k => by simp only [spec_ValidDisk.l0]; rw [if_pos (by omega), if_pos (by omega), e, w64 (by omega) (by omega)]) ?_
    rw [List.drop_eq_getElem_cons (by omega), List.all_cons]
    by_cases h1 : l[i].f0 < 0
    · simp only [okW, h1, decide_true, Bool.not_true, Bool.false_and]; exact Ev.pos (by trivial) (Ev.now _)
    by_cases h2 : l[i].f0 ≥ n
    · simp only [okW, h1, h2, decide_true, Bool.not_true, Bool.false_and, Bool.and_false]; exact Ev.neg (by simp) (Ev.pos (by trivial) (Ev.now _))
    by_cases h3 : l[i].f1.length = 64
    · have h3' : (l[i].f1.length : Int) = 64 := by omega
      have : okW n l[i] = true := by simp [okW, h1, h2, h3]
      rw [this, Bool.true_and]
      exact Ev.neg h1 (Ev.neg h2 (Ev.pos h3' (ih (i + 1) (by omega))))
    · have h3' : ¬(l[i].f1.length : Int) = 64 := by omega
      have : okW n l[i] = false := by simp [okW, h3]
      rw [this, Bool.false_and]
      exact Ev.neg h1 (Ev.neg h2 (Ev.neg h3' (Ev.now _)))
theorem implValid_l (n : Int) (l : List S82) (hl : l.length ≤ 281474976710656) (d : Nat) : ∀ (i : Nat), i + d = l.length → Ev (fun k => impl_ValidDisk.l0 k n l (l.length : Int) i) ((l.drop i).all (okW n)) := by
  induction d with
  | zero =>
    intro i hi
    refine Ev.step (fun k => by simp only [impl_ValidDisk.l0]; exact if_neg (by omega)) ?_
    rw [List.drop_of_length_le (by omega)]; exact Ev.now _
  | succ d ih =>
    intro i hi
    have e : rd_T82 l i = l[i] := by simp [rd_T82, show i < l.length by omega]
    refine Ev.step (fun k => by simp only [impl_ValidDisk.l0]; rw [if_pos (by omega), if_pos (by omega), if_pos (by omega), e, w64 (by omega) (by omega)]) ?_
    rw [List.drop_eq_getElem_cons (by omega), List.all_cons]
    by_cases h1 : l[i].f0 < 0
    · simp only [okW, h1, decide_true, Bool.not_true, Bool.false_and]; exact Ev.pos (by trivial) (Ev.now _)
    by_cases h2 : l[i].f0 ≥ n
    · simp only [okW, h1, h2, decide_true, Bool.not_true, Bool.false_and, Bool.and_false]; exact Ev.neg (by simp) (Ev.pos (by trivial) (Ev.now _))
    by_cases h3 : l[i].f1.length = 64
    · have h3' : (l[i].f1.length : Int) = 64 := by omega
      have : okW n l[i] = true := by simp [okW, h1, h2, h3]
      rw [this, Bool.true_and]
      exact Ev.neg h1 (Ev.neg h2 (Ev.pos h3' (ih (i + 1) (by omega))))
    · have h3' : ¬(l[i].f1.length : Int) = 64 := by omega
      have : okW n l[i] = false := by simp [okW, h3]
      rw [this, Bool.false_and]
      exact Ev.neg h1 (Ev.neg h2 (Ev.neg h3' (Ev.now _)))
theorem specValid_ev (b : List Int) (l : List S82) (hb : b.length ≤ 281474976710656) (hl : l.length ≤ 281474976710656) : Ev (fun k => spec_ValidDisk.f k b l) (validD b l) := by
  have e : spec_l1Blocks.f b l = some ((b.length / 64 : Nat) : Int) := by simp only [spec_l1Blocks.f]; rw [w64 (by omega) (by omega)]; rfl
  simp only [spec_ValidDisk.f]
  refine Ev.bindS e ?_
  have j1 : Ev (fun k => spec_ValidDisk.j0 k ((b.length / 64 : Nat) : Int) true b l) false := Ev.step (fun k => by simp only [spec_ValidDisk.j0]; exact if_pos trivial) (Ev.now _)
  by_cases nh1 : ¬(b.length % 64 = 0)
  · have h1 := nh1
    have : validD b l = false := by simp [validD, h1]
    rw [this]; exact Ev.neg (by omega) j1
  have h1 : b.length % 64 = 0 := by omega
  refine Ev.pos (by omega) ?_
  by_cases nh2 : ¬(1 ≤ b.length / 64)
  · have h2 := nh2
    have : validD b l = false := by simp [validD, h2]
    rw [this]; exact Ev.pos (by omega) j1
  have h2 : 1 ≤ b.length / 64 := by omega
  refine Ev.neg (by omega) ?_
  by_cases nh3 : ¬(b.length / 64 ≤ 300)
  · have h3 := nh3
    have : validD b l = false := by simp [validD, h3]
    rw [this]; exact Ev.pos (by omega) j1
  have h3 : b.length / 64 ≤ 300 := by omega
  refine Ev.neg (by omega) ?_
  by_cases nh4 : ¬(l.length ≤ 2000)
  · have h4 := nh4
    have : validD b l = false := by simp [validD, h4]
    rw [this]; rw [decide_eq_true (by omega)]; exact j1
  have h4 : l.length ≤ 2000 := by omega
  rw [decide_eq_false (by omega)]
  have : validD b l = (l.drop 0).all (okW (b.length / 64 : Nat)) := by simp only [validD, h1, h2, h3, h4, decide_true, Bool.true_and, List.drop_zero]
  rw [this]
  exact Ev.step (fun k => by simp only [spec_ValidDisk.j0]; exact if_neg (by simp)) (specValid_l _ b l hl l.length 0 (by omega))
theorem implValid_ev (b : List Int) (l : List S82) (hb : b.length ≤ 281474976710656) (hl : l.length ≤ 281474976710656) : Ev (fun k => impl_ValidDisk.f k b l) (validD b l) := by
  have e : impl_Disk_blocks.f b l = some ((b.length / 64 : Nat) : Int) := by simp only [impl_Disk_blocks.f]; rw [w64 (by omega) (by omega)]; rfl
  simp only [impl_ValidDisk.f]
  refine Ev.bindS e ?_
  have j1 : Ev (fun k => impl_ValidDisk.j0 k ((b.length / 64 : Nat) : Int) true b l) false := Ev.step (fun k => by simp only [impl_ValidDisk.j0]; exact if_pos trivial) (Ev.now _)
  by_cases nh1 : ¬(b.length % 64 = 0)
  · have h1 := nh1
    have : validD b l = false := by simp [validD, h1]
    rw [this]; exact Ev.neg (by omega) j1
  have h1 : b.length % 64 = 0 := by omega
  refine Ev.pos (by omega) ?_
  by_cases nh2 : ¬(1 ≤ b.length / 64)
  · have h2 := nh2
    have : validD b l = false := by simp [validD, h2]
    rw [this]; exact Ev.pos (by omega) j1
  have h2 : 1 ≤ b.length / 64 := by omega
  refine Ev.neg (by omega) ?_
  by_cases nh3 : ¬(b.length / 64 ≤ 300)
  · have h3 := nh3
    have : validD b l = false := by simp [validD, h3]
    rw [this]; exact Ev.pos (by omega) j1
  have h3 : b.length / 64 ≤ 300 := by omega
  refine Ev.neg (by omega) ?_
  by_cases nh4 : ¬(l.length ≤ 2000)
  · have h4 := nh4
    have : validD b l = false := by simp [validD, h4]
    rw [this]; rw [decide_eq_true (by omega)]; exact j1
  have h4 : l.length ≤ 2000 := by omega
  rw [decide_eq_false (by omega)]
  have : validD b l = (l.drop 0).all (okW (b.length / 64 : Nat)) := by simp only [validD, h1, h2, h3, h4, decide_true, Bool.true_and, List.drop_zero]
  rw [this]
  exact Ev.step (fun k => by simp only [impl_ValidDisk.j0]; exact if_neg (by simp)) (implValid_l _ l hl l.length 0 (by omega))

def lastW (a : Int) (cur : List Int) (l : List S82) : List Int := l.foldl (fun acc x => if x.f0 = a then x.f1 else acc) cur
theorem specRead_l (a : Int) (b : List Int) (l : List S82) (hl : l.length ≤ 1048576) (hx : ∀ x ∈ l, x.f1.length ≤ 1048576) (d : Nat) : ∀ (i : Nat) (cur : List Int), i + d = l.length → Ev (fun k => spec_DiskRead.l0 k a cur i b l) (lastW a cur (l.drop i)) := by
  induction d with
  | zero =>
    intro i cur hi
    refine Ev.step (fun k => by simp only [spec_DiskRead.l0]; exact if_neg (by omega)) ?_
    rw [List.drop_of_length_le (by omega)]; exact Ev.now _
  | succ d ih =>
    intro i cur hi
    have e : rd_T82 l i = l[i] := by simp [rd_T82, show i < l.length by omega]
    refine Ev.step (fun k => by simp only [spec_DiskRead.l0]; rw [if_pos (by omega), if_pos (by omega), e, w64 (by omega) (by omega)]) ?_
    rw [List.drop_eq_getElem_cons (by omega)]
    by_cases h1 : l[i].f0 = a
    · have : lastW a cur (l[i] :: l.drop (i + 1)) = lastW a l[i].f1 (l.drop (i + 1)) := by unfold lastW; rw [List.foldl_cons, if_pos h1]
      rw [this]
      exact Ev.pos h1 (Ev.bind (l1Copy_ev _ (by have := hx _ (List.getElem_mem (show i < l.length by omega)); omega)) (ih (i + 1) _ (by omega)))
    · have : lastW a cur (l[i] :: l.drop (i + 1)) = lastW a cur (l.drop (i + 1)) := by unfold lastW; rw [List.foldl_cons, if_neg h1]
      rw [this]
      exact Ev.neg h1 (ih (i + 1) _ (by omega))
def blkOf (b : List Int) (a : Nat) : List Int := (b.take (64 * a + 64)).drop (64 * a)
def readM (b : List Int) (l : List S82) (a : Int) : List Int := if validD b l = true ∧ 0 ≤ a ∧ a < (b.length / 64 : Nat) then lastW a (blkOf b a.toNat) l else []
theorem aget_aset (m : List (Int × List Int)) (b a : Int) (d : List Int) : YtlpjpmfhkmddjaaH.aget (YtlpjpmfhkmddjaaH.aset m b d) a = if b = a then some d else YtlpjpmfhkmddjaaH.aget m a := by
  induction m with
  | nil => simp only [YtlpjpmfhkmddjaaH.aset, YtlpjpmfhkmddjaaH.aget]
  | cons q m ih =>
    obtain ⟨k, v⟩ := q
    simp only [YtlpjpmfhkmddjaaH.aset]
    by_cases c : k = b
    · subst c
      rw [if_pos rfl]; simp only [YtlpjpmfhkmddjaaH.aget]
      by_cases c2 : k = a <;> simp [c2]
    · rw [if_neg c]; simp only [YtlpjpmfhkmddjaaH.aget, ih]
      by_cases c2 : k = a
      · subst c2; simp [Ne.symm c]
      · simp [c2]
theorem aget_fold (a : Int) (l : List S82) : ∀ m : List (Int × List Int), YtlpjpmfhkmddjaaH.aget (l.foldl (fun m p => YtlpjpmfhkmddjaaH.aset m p.f0 p.f1) m) a = l.foldl (fun acc x => if x.f0 = a then some x.f1 else acc) (YtlpjpmfhkmddjaaH.aget m a) := by
  induction l with
  | nil => intro m; rfl
  | cons x l ih => intro m; simp only [List.foldl_cons]; rw [ih, aget_aset]
theorem readP_last (b : List Int) (l : List S82) (a : Nat) : readP b (yng l) a = lastW a (blkOf b a) l := by
  unfold readP yng
  rw [aget_fold]
  have : ∀ (l : List S82) (o : Option (List Int)), (match l.foldl (fun acc x => if x.f0 = (a : Int) then some x.f1 else acc) o with | some v => v | none => blkOf b a) = lastW a (match o with | some v => v | none => blkOf b a) l := by
    intro l
    induction l with
    | nil => intro o; rfl
    | cons x l ih =>
      intro o
      simp only [List.foldl_cons, lastW]
      rw [ih]
      by_cases c : x.f0 = (a : Int)
      · simp [c, lastW]
      · simp [c, lastW]
  exact this l none
theorem okW_64 {n : Int} {l : List S82} (h : l.all (okW n) = true) : l.all (fun p => decide (p.f1.length = 64)) = true := by
  rw [List.all_eq_true] at *
  intro x hx
  have := h x hx
  simp only [okW, Bool.and_eq_true] at this
  exact this.2
theorem specRead_ev (b : List Int) (l : List S82) (a : Int) (hb : b.length ≤ 1048576) (hl : l.length ≤ 1048576) (hx : ∀ x ∈ l, x.f1.length ≤ 1048576) (ha : -9223372036854775808 ≤ a) (ha2 : a < 9223372036854775808) : Ev (fun k => spec_DiskRead.f k b l a) (readM b l a) := by
  have hd : ((b.length : Int) / 64) = ((b.length / 64 : Nat) : Int) := by omega
  simp only [spec_DiskRead.f]
  refine Ev.bind (specValid_ev b l (by omega) (by omega)) ?_
  by_cases hv : validD b l = true
  · refine Ev.pos hv ?_
    by_cases h0 : a < 0
    · rw [show readM b l a = [] from if_neg (by omega)]
      exact Ev.pos h0 (Ev.step (fun k => by simp only [spec_DiskRead.j0]; exact if_pos trivial) (Ev.now _))
    · refine Ev.neg h0 ?_
      refine Ev.bindS (a := ((b.length / 64 : Nat) : Int)) (by simp only [spec_l1Blocks.f]; rw [hd, w64 (by omega) (by omega)]) ?_
      by_cases h1 : a ≥ ((b.length / 64 : Nat) : Int)
      · rw [show readM b l a = [] from if_neg (by omega)]
        exact Ev.step (fun k => by simp only [spec_DiskRead.j0]; exact if_pos (decide_eq_true h1)) (Ev.now _)
      · obtain ⟨n, rfl⟩ : ∃ n : Nat, a = (n : Int) := ⟨a.toNat, by omega⟩
        rw [show readM b l (n : Int) = lastW n (blkOf b n) l from if_pos ⟨hv, by omega, by omega⟩]
        have e1 : wrap64 ((n : Int) * 64) = ((64 * n : Nat) : Int) := by rw [w64 (by omega) (by omega)]; omega
        have e2 : wrap64 (wrap64 ((n : Int) + 1) * 64) = ((64 * n + 64 : Nat) : Int) := by rw [w64 (x := (n : Int) + 1) (by omega) (by omega), w64 (by omega) (by omega)]; omega
        refine Ev.step (fun k => by simp only [spec_DiskRead.j0]; rw [if_neg (by simp; omega), e1, e2, if_pos (by omega), if_pos (by omega), if_pos (by omega), Int.toNat_natCast, Int.toNat_natCast]) ?_
        refine Ev.bind (l1Copy_ev (blkOf b n) (by simp [blkOf]; omega)) ?_
        exact specRead_l n b l hl hx l.length 0 _ (by omega)
  · rw [show readM b l a = [] from if_neg (fun h => hv h.1)]
    exact Ev.neg hv (Ev.step (fun k => by simp only [spec_DiskRead.j0]; exact if_pos trivial) (Ev.now _))
theorem wf64 {x : Int} (h : (Lit.int .i64 x).wf = true) : -9223372036854775808 ≤ x ∧ x < 9223372036854775808 := by
  simp [Lit.wf, IntKind.min, IntKind.max, IntKind.signed, IntKind.bits] at h
  omega
def goodC (c0 c1 : Int) : Bool := decide (c0 ≥ 1) && decide (c0 ≤ 64) && decide (c1 ≥ 1) && decide (c1 ≤ 64)
theorem specGood (c0 c1 : Int) : spec_l5Good.f c0 c1 = some (goodC c0 c1) := by
  unfold spec_l5Good.f goodC
  by_cases h1 : c0 ≥ 1 <;> by_cases h2 : c0 ≤ 64 <;> by_cases h3 : c1 ≥ 1 <;> simp [h1, h2, h3]
theorem implGood (c0 c1 : Int) : impl_Config_valid.f c0 c1 = some (goodC c0 c1) := by
  unfold impl_Config_valid.f goodC
  by_cases h1 : c0 ≥ 1 <;> by_cases h2 : c0 ≤ 64 <;> by_cases h3 : c1 ≥ 1 <;> simp [h1, h2, h3]
theorem goodC_iff {c0 c1 : Int} (h : goodC c0 c1 = true) : 1 ≤ c0 ∧ c0 ≤ 64 ∧ 1 ≤ c1 ∧ c1 ≤ 64 := by
  simp only [goodC, Bool.and_eq_true, decide_eq_true_eq] at h; omega
def fitsC (b : List Int) (l : List S82) (c0 c1 : Int) : Bool := goodC c0 c1 && validD b l && decide (((b.length / 64 : Nat) : Int) = 2 + 2 * (c0 + c1))
theorem wblocks {c0 c1 : Int} (h : goodC c0 c1 = true) : wrap64 (2 + wrap64 (2 * wrap64 (c0 + c1))) = 2 + 2 * (c0 + c1) := by
  have := goodC_iff h
  rw [w64 (x := c0 + c1) (by omega) (by omega), w64 (x := 2 * (c0 + c1)) (by omega) (by omega), w64 (by omega) (by omega)]
theorem specFits_ev (b : List Int) (l : List S82) (c0 c1 : Int) (hb : b.length ≤ 1048576) (hl : l.length ≤ 1048576) : Ev (fun k => spec_l5Fits.f k b l c0 c1) (fitsC b l c0 c1) := by
  have hd : ((b.length : Int) / 64) = ((b.length / 64 : Nat) : Int) := by omega
  simp only [spec_l5Fits.f]
  refine Ev.bindS (specGood c0 c1) ?_
  by_cases hg : goodC c0 c1 = true
  · refine Ev.pos hg (Ev.bind (specValid_ev b l (by omega) (by omega)) ?_)
    by_cases hv : validD b l = true
    · refine Ev.pos hv (Ev.bindS (a := ((b.length / 64 : Nat) : Int)) (by simp only [spec_l1Blocks.f]; rw [hd, w64 (by omega) (by omega)]) ?_)
      rw [wblocks hg]
      refine Ev.ofE ?_
      simp [fitsC, hg, hv]
      rfl
    · rw [show fitsC b l c0 c1 = false by simp [fitsC, hv]]
      exact Ev.neg hv (Ev.now _)
  · rw [show fitsC b l c0 c1 = false by simp [fitsC, hg]]
    exact Ev.neg hg (Ev.now _)
theorem areaFirst_spec {c0 c1 bank : Int} (lg : Bool) (h : goodC c0 c1 = true) (hb : bank = 0 ∨ bank = 1) : spec_l5First.f c0 c1 bank lg = some (areaFirst c0 c1 bank lg) := by
  have := goodC_iff h
  unfold spec_l5First.f areaFirst
  rcases hb with rfl | rfl
  · rw [w64 (x := c0 + c1) (by omega) (by omega), Int.zero_mul, w64 (x := 0) (by omega) (by omega), w64 (x := 2 + 0) (by omega) (by omega), w64 (x := 2 + 0 + c0) (by omega) (by omega)]
    cases lg <;> rfl
  · rw [w64 (x := c0 + c1) (by omega) (by omega), Int.one_mul, w64 (x := c0 + c1) (by omega) (by omega), w64 (x := 2 + (c0 + c1)) (by omega) (by omega), w64 (x := 2 + (c0 + c1) + c0) (by omega) (by omega)]
    cases lg <;> rfl
def areaM (b : List Int) (l : List S82) (c0 c1 bank : Int) (lg : Bool) : List Int := if fitsC b l c0 c1 = true ∧ (bank = 0 ∨ bank = 1) then bytesD b (yng l) (areaFirst c0 c1 bank lg).toNat (areaLen c0 c1 lg).toNat else []
theorem fits_parts {b : List Int} {l : List S82} {c0 c1 : Int} (h : fitsC b l c0 c1 = true) : goodC c0 c1 = true ∧ validD b l = true ∧ (b.length : Int) = 64 * (2 + 2 * (c0 + c1)) ∧ l.length ≤ 2000 ∧ l.all (fun p => decide (p.f1.length = 64)) = true := by
  simp only [fitsC, Bool.and_eq_true, decide_eq_true_eq] at h
  obtain ⟨⟨h1, h2⟩, h3⟩ := h
  have hv := h2
  simp only [validD, Bool.and_eq_true, decide_eq_true_eq] at h2
  exact ⟨h1, hv, by omega, h2.1.2, okW_64 h2.2⟩
theorem yng64 {l : List S82} (h : l.all (fun p => decide (p.f1.length = 64)) = true) : ∀ p ∈ yng l, p.2.length = 64 := by
  have : ∀ (l : List S82) (m : List (Int × List Int)), (∀ p ∈ m, p.2.length = 64) → (∀ p ∈ l, p.f1.length = 64) → ∀ p ∈ l.foldl (fun m p => YtlpjpmfhkmddjaaH.aset m p.f0 p.f1) m, p.2.length = 64 := by
    intro l
    induction l with
    | nil => intro m hm _; exact hm
    | cons x l ih => intro m hm hl; exact ih _ (aset_64 hm _ (hl x (by simp))) (fun p hp => hl p (by simp [hp]))
  exact this l [] (fun p hp => by cases hp) (fun p hp => of_decide_eq_true (List.all_eq_true.mp h p hp))
theorem specArea_l (b : List Int) (l : List S82) (c0 c1 bank : Int) (lg : Bool) (hb : b.length ≤ 1048576) (hl : l.length ≤ 1048576) (hx : ∀ x ∈ l, x.f1.length ≤ 1048576) (hf : fitsC b l c0 c1 = true) (hbk : bank = 0 ∨ bank = 1) (fi n : Nat) (hfi : areaFirst c0 c1 bank lg = (fi : Int)) (hn : areaLen c0 c1 lg = (n : Int)) (hin : 64 * (fi + n) ≤ b.length) (d : Nat) : ∀ i : Nat, i + d = n → Ev (fun k => spec_AreaBytes.l0 k bank lg (bytesD b (yng l) fi i) i b l c0 c1) (bytesD b (yng l) fi n) := by
  obtain ⟨g1, g2, g3, g4, g5⟩ := fits_parts hf
  have hlen : spec_l5Length.f c0 c1 lg = some ((n : Nat) : Int) := by rw [← hn]; unfold spec_l5Length.f areaLen; cases lg <;> rfl
  have hfst : spec_l5First.f c0 c1 bank lg = some (fi : Int) := by rw [← hfi]; exact areaFirst_spec lg g1 hbk
  have h64 := readP_len (dur := b) (yng64 g5)
  induction d with
  | zero =>
    intro i hi
    obtain rfl : i = n := by omega
    refine Ev.step (fun k => by simp only [spec_AreaBytes.l0]; rw [hlen]; exact if_neg (by omega)) (Ev.now _)
  | succ d ih =>
    intro i hi
    have hr : readM b l ((fi + i : Nat) : Int) = readP b (yng l) (fi + i) := by
      rw [readP_last]
      exact if_pos ⟨g2, by omega, by omega⟩
    have e2 := bytesD_len h64 (fi := fi) (n := i) (by omega)
    have e3 := h64 (fi + i) (by omega)
    have nx := ih (i + 1) (by omega)
    have ei : i < n := by omega
    have ej : (-9223372036854775808 : Int) ≤ (i : Int) + 1 ∧ (i : Int) + 1 < 9223372036854775808 := by omega
    have e1 : wrap64 ((fi : Int) + (i : Int)) = ((fi + i : Nat) : Int) := by rw [w64 (by omega) (by omega)]; omega
    refine Ev.step (f := fun k => (spec_DiskRead.f k b l ((fi + i : Nat) : Int)).bind fun t195 => (if (bytesD b (yng l) fi i).length + t195.length < 140737488355328 then (spec_AreaBytes.l0 k bank lg (bytesD b (yng l) fi i ++ t195) ((i + 1 : Nat) : Int) b l c0 c1) else (none))) (fun k => by
      simp only [spec_AreaBytes.l0]
      rw [hlen, hfst]
      simp only [Option.bind_some]
      rw [if_pos (Int.ofNat_lt.mpr ei), e1, w64 ej.1 ej.2]
      rfl) ?_
    clear e1 ej
    refine Ev.bind (specRead_ev b l _ hb hl hx (by omega) (by omega)) ?_
    rw [hr]
    refine Ev.pos (by omega) ?_
    exact nx
theorem specArea_ev (b : List Int) (l : List S82) (c0 c1 bank : Int) (lg : Bool) (hb : b.length ≤ 1048576) (hl : l.length ≤ 1048576) (hx : ∀ x ∈ l, x.f1.length ≤ 1048576) : Ev (fun k => spec_AreaBytes.f k b l c0 c1 bank lg) (areaM b l c0 c1 bank lg) := by
  have no : Ev (fun k => spec_AreaBytes.j0 k bank lg [] true b l c0 c1) [] := Ev.step (fun k => by simp only [spec_AreaBytes.j0]; exact if_pos trivial) (Ev.now _)
  simp only [spec_AreaBytes.f, Option.bind_some]
  refine Ev.bind (specFits_ev b l c0 c1 hb hl) ?_
  by_cases hf : fitsC b l c0 c1 = true
  · refine Ev.pos hf ?_
    by_cases h0 : bank < 0
    · rw [show areaM b l c0 c1 bank lg = [] from if_neg (fun h => by omega)]
      exact Ev.pos h0 no
    · refine Ev.neg h0 ?_
      by_cases h1 : bank > 1
      · rw [show areaM b l c0 c1 bank lg = [] from if_neg (fun h => by omega), decide_eq_true h1]
        exact no
      · have hbk : bank = 0 ∨ bank = 1 := by omega
        obtain ⟨g1, g2, g3, g4, g5⟩ := fits_parts hf
        have g6 := goodC_iff g1
        rw [show areaM b l c0 c1 bank lg = bytesD b (yng l) (areaFirst c0 c1 bank lg).toNat (areaLen c0 c1 lg).toNat from if_pos ⟨hf, hbk⟩, decide_eq_false h1]
        obtain ⟨_, f1, f2, f3⟩ := (AreaOk.mk (n := b.length) ⟨g6.1, g6.2.1⟩ ⟨g6.2.2.1, g6.2.2.2⟩ hbk g3).first lg
        refine Ev.step (fun k => by simp only [spec_AreaBytes.j0]; rw [if_neg (by decide)]) ?_
        exact specArea_l b l c0 c1 bank lg hb hl hx hf hbk _ _ (by omega) (by omega) (by omega) _ 0 (Nat.zero_add _)
  · rw [show areaM b l c0 c1 bank lg = [] from if_neg (fun h => hf h.1)]
    exact Ev.neg hf no
theorem implArea_ev (b : List Int) (l : List S82) (c0 c1 bank : Int) (lg : Bool) (hb : b.length ≤ 1048576) (hl : l.length ≤ 1048576) : Ev (fun k => impl_AreaBytes.f k b l c0 c1 bank lg) (areaM b l c0 c1 bank lg) := by
  have hd : ((b.length : Int) / 64) = ((b.length / 64 : Nat) : Int) := by omega
  simp only [impl_AreaBytes.f]
  refine Ev.bindS (implGood c0 c1) ?_
  by_cases hg : goodC c0 c1 = true
  · refine Ev.pos hg (Ev.bind (implValid_ev b l (by omega) (by omega)) ?_)
    by_cases hv : validD b l = true
    · refine Ev.pos hv (Ev.bindS (a := ((b.length / 64 : Nat) : Int)) (by simp only [impl_Disk_blocks.f]; rw [hd, w64 (by omega) (by omega)]) ?_)
      refine Ev.bindS (a := 2 + 2 * (c0 + c1)) (by simp only [impl_Config_blocks.f]; rw [wblocks hg]) ?_
      by_cases hn : ((b.length / 64 : Nat) : Int) = 2 + 2 * (c0 + c1)
      · have hf : fitsC b l c0 c1 = true := by simp only [fitsC, hg, hv, Bool.true_and]; exact decide_eq_true hn
        obtain ⟨g1, g2, g3, g4, g5⟩ := fits_parts hf
        have g6 := goodC_iff g1
        have hA : (bank = 0 ∨ bank = 1) → impl_areaB.f b l c0 c1 bank lg = some (areaM b l c0 c1 bank lg) := fun hbk => by
          rw [show areaM b l c0 c1 bank lg = bytesD b (yng l) (areaFirst c0 c1 bank lg).toNat (areaLen c0 c1 lg).toNat from if_pos ⟨hf, hbk⟩]
          exact if_pos ⟨g6.1, g6.2.1, g6.2.2.1, g6.2.2.2, hbk, g3, by omega, g5⟩
        refine Ev.pos hn ?_
        by_cases h0 : bank = 0
        · exact Ev.pos h0 (Ev.bindS (hA (.inl h0)) (Ev.now _))
        · refine Ev.neg h0 ?_
          by_cases h1 : bank = 1
          · exact Ev.pos h1 (Ev.bindS (hA (.inr h1)) (Ev.now _))
          · rw [show areaM b l c0 c1 bank lg = [] from if_neg (fun h => by omega)]
            exact Ev.neg h1 (Ev.now _)
      · rw [show areaM b l c0 c1 bank lg = [] from if_neg (fun h => by have := h.1; simp only [fitsC, Bool.and_eq_true, decide_eq_true_eq] at this; exact hn this.2)]
        exact Ev.neg hn (Ev.now _)
    · rw [show areaM b l c0 c1 bank lg = [] from if_neg (fun h => by have := h.1; simp only [fitsC, Bool.and_eq_true] at this; exact hv this.1.2)]
      exact Ev.neg hv (Ev.now _)
  · rw [show areaM b l c0 c1 bank lg = [] from if_neg (fun h => by have := h.1; simp only [fitsC, Bool.and_eq_true] at this; exact hg this.1.1)]
    exact Ev.neg hg (Ev.now _)
theorem areaM_len (b : List Int) (l : List S82) (c0 c1 bank : Int) (lg : Bool) (hb : b.length ≤ 1048576) : (areaM b l c0 c1 bank lg).length ≤ 1048576 := by
  unfold areaM
  split
  · rename_i h
    obtain ⟨g1, g2, g3, g4, g5⟩ := fits_parts h.1
    have g6 := goodC_iff g1
    obtain ⟨_, f1, f2, f3⟩ := (AreaOk.mk (n := b.length) ⟨g6.1, g6.2.1⟩ ⟨g6.2.2.1, g6.2.2.2⟩ h.2 g3).first lg
    rw [bytesD_len (readP_len (yng64 g5)) (by omega)]
    omega
  · simp
theorem FnExactAreaBytes : laws_FnExactAreaBytes.Pure := by
  intro b l c0 c1 bank lg hb hl _ _ _
  simp only [maxLen] at hb hl
  obtain ⟨r, e, h⟩ := szDisk_ev b l 1048576 (by have := hb.1; omega) (by have := hl.1; omega) (fun x hx => by have := (hl.2 x hx).2.1; omega) (by omega) (by omega)
  apply Ev.rounds
  simp only [laws_FnExactAreaBytes.f]
  refine Ev.bind e ?_
  by_cases hr : r < 0
  · exact Ev.pos hr (Ev.now _)
  refine Ev.neg hr ?_
  obtain ⟨h0, h1, h2⟩ : 0 ≤ r ∧ r + b.length + l.length ≤ 1048576 ∧ ∀ x ∈ l, (x.f1.length : Int) ≤ 1048576 := by
    rcases h with h | h
    · omega
    · exact h
  have hx : ∀ x ∈ l, x.f1.length ≤ 281474976710656 := fun x hx => by have := h2 x hx; omega
  have hm : ∀ x ∈ l.map cvW, x.f1.length ≤ 1048576 := by
    intro x hx2; obtain ⟨y, hy, rfl⟩ := List.mem_map.mp hx2; have := h2 y hy; simp only [cvW]; omega
  have hm2 : ∀ x ∈ l.map cvW, x.f1.length ≤ 281474976710656 := fun x hx => by have := hm x hx; omega
  have hlm : (l.map cvW).length ≤ 1048576 := by simp; omega
  have tod := toDisk_ev b l (by omega) (by omega) hx
  have hlen := areaM_len b (l.map cvW) c0 c1 bank lg (by omega)
  have eqA := eqByteS_ev (areaM b (l.map cvW) c0 c1 bank lg) (by omega)
  have imp := implArea_ev b (l.map cvW) c0 c1 bank lg (by omega) hlm
  refine Ev.bind tod (Ev.bindS rfl (Ev.bind (specArea_ev b _ c0 c1 bank lg (by omega) hlm hm) (Ev.bind tod (Ev.bindS rfl (Ev.bind imp (Ev.bind eqA (Ev.pos rfl ?_)))))))
  obtain ⟨m, hm0, hme⟩ := markDisk_ev b (l.map cvW) (by omega) hlm hm
  refine Ev.bind tod (Ev.bind (eqDisk_ev b (l.map cvW) (by omega) (by omega) hm2) (Ev.pos rfl (Ev.bind hme (Ev.neg (by omega) (Ev.bind eqA ?_)))))
  refine Ev.step (fun k => by simp only [laws_FnExactAreaBytes.j0]; rw [if_neg (by decide)]) ?_
  refine Ev.bind (markByteS_ev 1 (by omega) (by omega) _ (by omega)) (Ev.bind (heldByteS_ev 1 (by omega) (by omega) _ (by omega)) (Ev.neg (by omega) (Ev.pos rfl ?_)))
  exact Ev.bind tod (Ev.bindS rfl (Ev.bind imp (Ev.bind eqA (Ev.pos rfl (Ev.now _)))))

end Go.Proofs.Ytlpjpmfhkmddjaa.Pure
