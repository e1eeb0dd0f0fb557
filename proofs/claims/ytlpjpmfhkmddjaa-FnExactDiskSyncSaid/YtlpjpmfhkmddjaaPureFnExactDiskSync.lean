/- What is proved: the law FnExactDiskSync returns true: at every disk the program's DiskSync answers as the reference's, leaves its argument alone, and its answer owns its memory. Conditions: none (where the law looks at a bigger argument it returns true by itself). -/
import Derived.Test.YtlpjpmfhkmddjaaGFnExactDiskSyncx7
namespace Go.Proofs.Ytlpjpmfhkmddjaa.Pure
open Go.RowKit Go.Proofs.Ytlpjpmfhkmddjaa.GFnExactDiskSync Go.Proofs.YtlpjpmfhkmddjaaW.PrintWords Go.Proofs.YtlpjpmfhkmddjaaW.PrintLast Go.Proofs.YtlpjpmfhkmddjaaW.PrintMore
set_option linter.unusedVariables false
set_option linter.unusedSimpArgs false

theorem w64 {x : Int} (h0 : -9223372036854775808 ≤ x) (h1 : x < 9223372036854775808) : wrap64 x = x := by unfold wrap64; omega
theorem u8_wf {x : Int} (h : (Lit.int .u8 x).wf = true) : 0 ≤ x ∧ x ≤ 255 := by
  simp [Lit.wf, IntKind.min, IntKind.max, IntKind.signed, IntKind.bits] at h
  omega
theorem Ev.pos {α : Type} {c : Prop} [Decidable c] {f g : Nat → Option α} {r : α} (hc : c) (h : Ev f r) : Ev (fun n => if c then f n else g n) r := Ev.congr (fun _ => if_pos hc) h
theorem Ev.neg {α : Type} {c : Prop} [Decidable c] {f g : Nat → Option α} {r : α} (hc : ¬c) (h : Ev g r) : Ev (fun n => if c then f n else g n) r := Ev.congr (fun _ => if_neg hc) h
theorem Ev.ofE {α : Type} {f : Option α} {r : α} (h : f = some r) : Ev (fun _ => f) r := ⟨0, fun _ _ => h⟩
theorem Ev.bindS {α β : Type} {g : Option α} {f : Nat → α → Option β} {a : α} {r : β} (h : g = some a) (k : Ev (fun n => f n a) r) : Ev (fun n => g.bind (f n)) r := Ev.congr (fun _ => by rw [h]; rfl) k
theorem szByteS_e (l : List Int) (a : Int) (hl : l.length ≤ 9223372036854775807) (ha : 0 ≤ a) (ha2 : a ≤ 281474976710656) : ∃ r, laws_szByteS.f l a = some r ∧ (r = -1 ∨ 0 ≤ r ∧ r = a - l.length) := by
  simp only [laws_szByteS.f]
  rw [w64 (by omega) (by omega)]
  by_cases h : a - (l.length : Int) < 0
  · exact ⟨-1, if_pos h, Or.inl rfl⟩
  · exact ⟨_, if_neg h, Or.inr ⟨by omega, rfl⟩⟩
theorem szWrite_e (x : S111) (a : Int) (hl : x.f1.length ≤ 9223372036854775807) (ha : 0 ≤ a) (ha2 : a ≤ 281474976710656) : ∃ r, laws_szWrite.f x.f0 x.f1 a = some r ∧ (r = -1 ∨ 0 ≤ r ∧ r ≤ a ∧ (x.f1.length : Int) ≤ a) := by
  obtain ⟨r, e, h⟩ := szByteS_e x.f1 a hl ha ha2
  simp only [laws_szWrite.f]
  rw [e]
  rcases h with rfl | ⟨h1, h2⟩
  · exact ⟨-1, by simp, Or.inl rfl⟩
  · exact ⟨r, by rw [Option.bind_some, if_neg (by omega)], Or.inr ⟨h1, by omega, by omega⟩⟩
theorem szWriteS_l (l : List S111) (hl : l.length ≤ 9223372036854775807) (hb : ∀ x ∈ l, x.f1.length ≤ 9223372036854775807) (d : Nat) : ∀ (i : Nat) (a : Int), i + d = l.length → 0 ≤ a → a ≤ 281474976710656 → ∃ r, Ev (fun k => laws_szWriteS.l0 k l a i) r ∧ (r = -1 ∨ 0 ≤ r ∧ r ≤ a ∧ ∀ x ∈ l.drop i, (x.f1.length : Int) ≤ a) := by
  induction d with
  | zero =>
    intro i a hi h0 h1
    exact ⟨a, Ev.step (fun k => by simp only [laws_szWriteS.l0]; exact if_neg (by omega)) (Ev.now _), Or.inr ⟨h0, by omega, by rw [List.drop_of_length_le (by omega)]; simp⟩⟩
  | succ d ih =>
    intro i a hi h0 h1
    have e : rd_T111 l i = l[i] := by simp [rd_T111, show i < l.length by omega]
    obtain ⟨r, er, hr⟩ := szWrite_e l[i] a (hb _ (List.getElem_mem _)) h0 h1
    have st : ∀ k, laws_szWriteS.l0 (k + 1) l a i = (if r < 0 then (some (-1)) else (laws_szWriteS.l0 k l r ((i + 1 : Nat) : Int))) := by
      intro k
      simp only [laws_szWriteS.l0]
      rw [if_pos (by omega), if_pos (by omega), e, er, Option.bind_some, w64 (by omega) (by omega)]; rfl
    rcases hr with rfl | ⟨h2, h3, h5⟩
    · exact ⟨-1, Ev.step st (Ev.pos (by omega) (Ev.now _)), Or.inl rfl⟩
    · obtain ⟨r2, e2, h4⟩ := ih (i + 1) r (by omega) h2 (by omega)
      refine ⟨r2, Ev.step st (Ev.neg (by omega) e2), ?_⟩
      rcases h4 with h4 | ⟨h6, h7, h8⟩
      · exact Or.inl h4
      · refine Or.inr ⟨h6, by omega, ?_⟩
        rw [List.drop_eq_getElem_cons (by omega)]
        intro x hx
        rcases List.mem_cons.mp hx with rfl | hx
        · exact h5
        · have := h8 x hx; omega
theorem szWriteS_ev (l : List S111) (a : Int) (hl : l.length ≤ 9223372036854775807) (hb : ∀ x ∈ l, x.f1.length ≤ 9223372036854775807) (ha : 0 ≤ a) (ha2 : a ≤ 281474976710656) : ∃ r, Ev (fun k => laws_szWriteS.f k l a) r ∧ (r = -1 ∨ 0 ≤ r ∧ r + l.length ≤ a ∧ ∀ x ∈ l, (x.f1.length : Int) ≤ a) := by
  by_cases h : a - (l.length : Int) < 0
  · refine ⟨-1, ?_, Or.inl rfl⟩
    simp only [laws_szWriteS.f]
    rw [w64 (by omega) (by omega)]
    exact Ev.pos h (Ev.now _)
  · obtain ⟨r, e, h2⟩ := szWriteS_l l hl hb l.length 0 (a - (l.length : Int)) (by omega) (by omega) (by omega)
    refine ⟨r, ?_, ?_⟩
    rotate_left
    · rcases h2 with h2 | ⟨h3, h4, h5⟩
      · exact Or.inl h2
      · exact Or.inr ⟨h3, by omega, fun x hx => by have := h5 x (by simpa using hx); omega⟩
    simp only [laws_szWriteS.f]
    rw [w64 (by omega) (by omega)]
    exact Ev.neg h e
theorem szDisk_ev (b : List Int) (l : List S111) (a : Int) (hbl : b.length ≤ 9223372036854775807) (hl : l.length ≤ 9223372036854775807) (hb : ∀ x ∈ l, x.f1.length ≤ 9223372036854775807) (ha : 0 ≤ a) (ha2 : a ≤ 281474976710656) : ∃ r, Ev (fun k => laws_szDisk.f k b l a) r ∧ (r = -1 ∨ 0 ≤ r ∧ r + b.length + l.length ≤ a ∧ ∀ x ∈ l, (x.f1.length : Int) ≤ a) := by
  obtain ⟨r, e, h⟩ := szByteS_e b a hbl ha ha2
  rcases h with rfl | ⟨h1, h2⟩
  · refine ⟨-1, ?_, Or.inl rfl⟩
    simp only [laws_szDisk.f]
    exact Ev.bindS e (Ev.pos (by omega) (Ev.now _))
  · obtain ⟨r2, e2, h3⟩ := szWriteS_ev l r hl hb h1 (by omega)
    simp only [laws_szDisk.f]
    rcases h3 with rfl | ⟨h4, h5, h6⟩
    · exact ⟨-1, Ev.bindS e (Ev.neg (by omega) (Ev.bind e2 (Ev.pos (by omega) (Ev.now _)))), Or.inl rfl⟩
    · exact ⟨r2, Ev.bindS e (Ev.neg (by omega) (Ev.bind e2 (Ev.neg (by omega) (Ev.now _)))), Or.inr ⟨h4, by omega, fun x hx => by have := h6 x hx; omega⟩⟩

theorem toByteS_l (x0 : List Int) (hl : x0.length ≤ 281474976710656) (d : Nat) : ∀ (i : Nat) (x3 : List Int), i + d = x0.length → x3.length = x0.length → x3.take i = x0.take i → ∀ k, d < k → laws_toByteS.l0 k x0 x3 i = some x0 := by
  induction d with
  | zero =>
    intro i x3 hi hl3 ht k hk
    obtain ⟨k, rfl⟩ : ∃ m, k = m + 1 := ⟨k - 1, by omega⟩
    simp only [laws_toByteS.l0]
    rw [if_neg (by omega), ← List.take_of_length_le (l := x3) (i := i) (by omega), ht, List.take_of_length_le (by omega)]
  | succ d ih =>
    intro i x3 hi hl3 ht k hk
    obtain ⟨k, rfl⟩ : ∃ m, k = m + 1 := ⟨k - 1, by omega⟩
    simp only [laws_toByteS.l0]
    rw [if_pos (by omega), if_pos (by omega), if_pos (by omega), w64 (by omega) (by omega), Int.toNat_natCast]
    refine ih (i + 1) _ (by omega) (by simpa using hl3) ?_ k (by omega)
    apply List.ext_getElem?
    intro n
    simp only [List.getElem?_take, rd, Int.toNat_natCast]
    by_cases hn : n < i
    · have h1 : (x3.take i)[n]? = (x0.take i)[n]? := by rw [ht]
      simp only [List.getElem?_take, if_pos hn] at h1
      rw [if_pos (by omega), if_pos (by omega), List.getElem?_set_ne (by omega)]; exact h1
    · by_cases hn2 : n = i
      · subst hn2; rw [if_pos (by omega), if_pos (by omega), List.getElem?_set_self (by omega)]
        simp [List.getElem?_eq_getElem (show n < x0.length by omega)]
      · rw [if_neg (by omega), if_neg (by omega)]
theorem toByteS_ev (l : List Int) (hl : l.length ≤ 281474976710656) : Ev (fun k => laws_toByteS.f k l) l := by
  refine ⟨l.length + 1, fun k hk => ?_⟩
  simp only [laws_toByteS.f]
  rw [if_pos (by omega), if_pos (by omega)]
  exact toByteS_l l hl l.length 0 _ (by omega) (by simp) (by simp) k (by omega)

def cvW (x : S111) : S82 := ⟨x.f0, x.f1⟩
theorem toWrite_ev (x : S111) (h : x.f1.length ≤ 281474976710656) : Ev (fun k => laws_toWrite.f k x.f0 x.f1) (x.f0, x.f1) := by
  simp only [laws_toWrite.f]
  exact Ev.bind (toByteS_ev _ h) (Ev.now _)
theorem toWriteS_l (l : List S111) (hl : l.length ≤ 281474976710656) (hb : ∀ x ∈ l, x.f1.length ≤ 281474976710656) (d : Nat) : ∀ (i : Nat) (y : List S82), i + d = l.length → y.length = l.length → y.take i = (l.map cvW).take i → Ev (fun k => laws_toWriteS.l0 k l y i) (l.map cvW) := by
  induction d with
  | zero =>
    intro i y hi hy ht
    refine Ev.step (fun k => by simp only [laws_toWriteS.l0]; exact if_neg (by omega)) ?_
    rw [List.take_of_length_le (by omega), List.take_of_length_le (by simp; omega)] at ht
    rw [ht]; exact Ev.now _
  | succ d ih =>
    intro i y hi hy ht
    refine Ev.step (fun k => by simp only [laws_toWriteS.l0]; rw [if_pos (by omega), if_pos (by omega), w64 (by omega) (by omega), Int.toNat_natCast]) ?_
    have e : rd_T111 l i = l[i] := by simp [rd_T111, show i < l.length by omega]
    rw [e]
    refine Ev.bind (toWrite_ev l[i] (hb _ (List.getElem_mem _))) ?_
    refine Ev.pos (by omega) (ih (i + 1) _ (by omega) (by simpa using hy) ?_)
    rw [List.take_add_one, List.take_add_one, List.take_set_of_le (by omega), ht]
    simp [hy, show i < l.length by omega, cvW]
theorem toWriteS_ev (l : List S111) (hl : l.length ≤ 8796093022208) (hb : ∀ x ∈ l, x.f1.length ≤ 281474976710656) : Ev (fun k => laws_toWriteS.f k l) (l.map cvW) := by
  simp only [laws_toWriteS.f]
  exact Ev.pos (by omega) (Ev.pos (by omega) (toWriteS_l l (by omega) hb l.length 0 _ (by omega) (by simp) (by simp)))
theorem toDisk_ev (a : List Int) (l : List S111) (ha : a.length ≤ 281474976710656) (hl : l.length ≤ 8796093022208) (hb : ∀ x ∈ l, x.f1.length ≤ 281474976710656) : Ev (fun k => laws_toDisk.f k a l) (a, l.map cvW) := by
  simp only [laws_toDisk.f]
  exact Ev.bind (toByteS_ev _ ha) (Ev.bind (toWriteS_ev _ hl hb) (Ev.now _))

theorem eqByteS_l (x : List Int) (hl : x.length ≤ 281474976710656) (d : Nat) : ∀ (i : Nat), i + d = x.length → ∀ k, d < k → laws_eqByteS.l0 k x x i = some true := by
  induction d with
  | zero =>
    intro i hi k hk
    obtain ⟨k, rfl⟩ : ∃ m, k = m + 1 := ⟨k - 1, by omega⟩
    simp only [laws_eqByteS.l0]
    rw [if_neg (by omega)]
  | succ d ih =>
    intro i hi k hk
    obtain ⟨k, rfl⟩ : ∃ m, k = m + 1 := ⟨k - 1, by omega⟩
    simp only [laws_eqByteS.l0]
    rw [if_pos (by omega), if_pos (by omega), if_pos (by omega), if_pos trivial, w64 (by omega) (by omega)]
    exact ih (i + 1) (by omega) k (by omega)
theorem eqByteS_ev (l : List Int) (hl : l.length ≤ 281474976710656) : Ev (fun k => laws_eqByteS.f k l l) true := by
  refine ⟨l.length + 1, fun k hk => ?_⟩
  simp only [laws_eqByteS.f]
  rw [if_pos trivial]
  exact eqByteS_l l hl l.length 0 (by omega) k (by omega)

theorem eqWrite_ev (x : S82) (h : x.f1.length ≤ 281474976710656) : Ev (fun k => laws_eqWrite.f k x.f0 x.f1 x.f0 x.f1) true := by
  simp only [laws_eqWrite.f]
  exact Ev.pos (by trivial) (Ev.bind (eqByteS_ev _ h) (Ev.pos (by trivial) (Ev.now _)))
theorem eqWriteS_l (l : List S82) (hl : l.length ≤ 281474976710656) (hb : ∀ x ∈ l, x.f1.length ≤ 281474976710656) (d : Nat) : ∀ (i : Nat), i + d = l.length → Ev (fun k => laws_eqWriteS.l0 k l l i) true := by
  induction d with
  | zero =>
    intro i hi
    refine Ev.step (fun k => by simp only [laws_eqWriteS.l0]; exact if_neg (by omega)) (Ev.now _)
  | succ d ih =>
    intro i hi
    refine Ev.step (fun k => by simp only [laws_eqWriteS.l0]; rw [if_pos (by omega), if_pos (by omega), if_pos (by omega), w64 (by omega) (by omega)]) ?_
    have e : rd_T82 l i = l[i] := by simp [rd_T82, show i < l.length by omega]
    rw [e]
    refine Ev.bind (eqWrite_ev l[i] (hb _ (List.getElem_mem _))) ?_
    exact Ev.pos (by trivial) (ih (i + 1) (by omega))
theorem eqWriteS_ev (l : List S82) (hl : l.length ≤ 281474976710656) (hb : ∀ x ∈ l, x.f1.length ≤ 281474976710656) : Ev (fun k => laws_eqWriteS.f k l l) true := by
  simp only [laws_eqWriteS.f]
  exact Ev.pos (by trivial) (eqWriteS_l l hl hb l.length 0 (by omega))
theorem eqDisk_ev (a : List Int) (l : List S82) (ha : a.length ≤ 281474976710656) (hl : l.length ≤ 281474976710656) (hb : ∀ x ∈ l, x.f1.length ≤ 281474976710656) : Ev (fun k => laws_eqDisk.f k a l a l) true := by
  simp only [laws_eqDisk.f]
  exact Ev.bind (eqByteS_ev _ ha) (Ev.pos (by trivial) (Ev.bind (eqWriteS_ev _ hl hb) (Ev.pos (by trivial) (Ev.now _))))

def markB (a : Int) (l : List Int) : List Int := (List.range l.length).map fun i : Nat => (a + (i : Int)) % 256
theorem markByteS_l (a : Int) (ha : 0 ≤ a) (ha2 : a ≤ 4611686018427387904) (n : Nat) (hl : n ≤ 281474976710656) (d : Nat) : ∀ (i : Nat) (x : List Int), i + d = n → x.length = n → x.take i = (List.range i).map (fun i : Nat => (a + (i : Int)) % 256) → ∀ k, d < k → laws_markByteS.l0 k x (a + i) i = some (a + n, (List.range n).map fun i : Nat => (a + (i : Int)) % 256) := by
  induction d with
  | zero =>
    intro i x hi hx ht k hk
    obtain ⟨k, rfl⟩ : ∃ m, k = m + 1 := ⟨k - 1, by omega⟩
    simp only [laws_markByteS.l0]
    rw [if_neg (by omega)]
    rw [List.take_of_length_le (by omega)] at ht
    obtain rfl : i = n := by omega
    rw [ht]
  | succ d ih =>
    intro i x hi hx ht k hk
    obtain ⟨k, rfl⟩ : ∃ m, k = m + 1 := ⟨k - 1, by omega⟩
    simp only [laws_markByteS.l0]
    rw [if_pos (by omega), if_pos (by omega), w64 (by omega) (by omega), w64 (by omega) (by omega), Int.toNat_natCast]
    have e1 : a + (i : Int) + 1 = a + ((i + 1 : Nat) : Int) := by omega
    have e2 : (i : Int) + 1 = ((i + 1 : Nat) : Int) := by omega
    rw [e1, e2]
    refine ih (i + 1) _ (by omega) (by simpa using hx) ?_ k (by omega)
    rw [List.range_succ, List.map_append, ← ht, List.take_add_one]
    simp [List.take_set_of_le, hx, show i < n by omega]
theorem markByteS_ev (a : Int) (ha : 0 ≤ a) (ha2 : a ≤ 4611686018427387904) (l : List Int) (hl : l.length ≤ 281474976710656) : Ev (fun k => laws_markByteS.f k l a) (a + l.length, markB a l) := by
  refine ⟨l.length + 1, fun k hk => ?_⟩
  simp only [laws_markByteS.f]
  have := markByteS_l a ha ha2 l.length hl l.length 0 l (by omega) rfl (by simp) k (by omega)
  simpa [markB] using this
theorem heldByteS_l (a : Int) (ha : 0 ≤ a) (ha2 : a ≤ 4611686018427387904) (l : List Int) (hl : l.length ≤ 281474976710656) (d : Nat) : ∀ (i : Nat), i + d = l.length → ∀ k, d < k → laws_heldByteS.l0 k (markB a l) (a + i) i = some (a + l.length) := by
  have hml : (markB a l).length = l.length := by simp [markB]
  induction d with
  | zero =>
    intro i hi k hk
    obtain ⟨k, rfl⟩ : ∃ m, k = m + 1 := ⟨k - 1, by omega⟩
    simp only [laws_heldByteS.l0]
    rw [if_neg (by omega)]
    obtain rfl : i = l.length := by omega
    rfl
  | succ d ih =>
    intro i hi k hk
    obtain ⟨k, rfl⟩ : ∃ m, k = m + 1 := ⟨k - 1, by omega⟩
    simp only [laws_heldByteS.l0]
    have hrd : rd (markB a l) i = (a + (i : Int)) % 256 := by simp [rd, markB, show i < l.length by omega]
    rw [if_pos (by omega), if_pos (by omega), if_pos hrd, w64 (by omega) (by omega), w64 (by omega) (by omega)]
    have e1 : a + (i : Int) + 1 = a + ((i + 1 : Nat) : Int) := by omega
    have e2 : (i : Int) + 1 = ((i + 1 : Nat) : Int) := by omega
    rw [e1, e2]
    exact ih (i + 1) (by omega) k (by omega)
theorem heldByteS_ev (a : Int) (ha : 0 ≤ a) (ha2 : a ≤ 4611686018427387904) (l : List Int) (hl : l.length ≤ 281474976710656) : Ev (fun k => laws_heldByteS.f k (markB a l) a) (a + l.length) := by
  refine ⟨l.length + 1, fun k hk => ?_⟩
  simp only [laws_heldByteS.f]
  have := heldByteS_l a ha ha2 l hl l.length 0 (by omega) k (by omega)
  simpa using this


def tW (a : Int) : List S82 → Int
  | [] => a
  | x :: l => tW (a + 1 + x.f1.length) l
def mW (a : Int) : List S82 → List S82
  | [] => []
  | x :: l => ⟨a, markB (a + 1) x.f1⟩ :: mW (a + 1 + x.f1.length) l
theorem tW_ge (l : List S82) : ∀ a, a ≤ tW a l := by
  induction l with
  | nil => intro a; exact Int.le_refl _
  | cons x l ih => intro a; have := ih (a + 1 + x.f1.length); simp only [tW]; omega
theorem mW_len (l : List S82) : ∀ a, (mW a l).length = l.length := by
  induction l with
  | nil => intro a; rfl
  | cons x l ih => intro a; simp [mW, ih]
theorem markWriteS_x (d : Nat) : ∀ (i : Nat) (y : List S82) (a : Int), i + d = y.length → y.length ≤ 1048576 → (∀ x ∈ y.drop i, x.f1.length ≤ 1048576) → 0 ≤ a → a + d * 1048577 ≤ 4611686018427387904 → Ev (fun k => laws_markWriteS.l0 k y a i) (tW a (y.drop i), y.take i ++ mW a (y.drop i)) := by
  induction d with
  | zero =>
    intro i y a hi hy hb ha ha2
    refine Ev.step (fun k => by simp only [laws_markWriteS.l0]; exact if_neg (by omega)) ?_
    rw [List.drop_of_length_le (by omega), List.take_of_length_le (by omega), mW, List.append_nil]
    exact Ev.now _
  | succ d ih =>
    intro i y a hi hy hb ha ha2
    have e : rd_T82 y i = y[i] := by simp [rd_T82, show i < y.length by omega]
    rw [List.drop_eq_getElem_cons (show i < y.length by omega)] at hb ⊢
    have hl := hb y[i] List.mem_cons_self
    refine Ev.step (fun k => by simp only [laws_markWriteS.l0]; rw [if_pos (by omega), if_pos (by omega), w64 (by omega) (by omega), w64 (by omega) (by omega), Int.toNat_natCast, e]) ?_
    refine Ev.bind (markByteS_ev (a + 1) (by omega) (by omega) _ (by omega)) ?_
    have h := ih (i + 1) ((y.set i ⟨a, y[i].f1⟩).set i ⟨a, markB (a + 1) y[i].f1⟩) (a + 1 + y[i].f1.length) (by simp; omega) (by simpa using hy) (fun x hx => hb x (by
      rw [List.set_set, List.drop_set_of_lt (by omega)] at hx; exact List.mem_cons_of_mem _ hx)) (by omega) (by omega)
    rw [List.set_set, List.drop_set_of_lt (by omega)] at h
    have h2 : (y.set i ⟨a, markB (a + 1) y[i].f1⟩).take (i + 1) = y.take i ++ [⟨a, markB (a + 1) y[i].f1⟩] := by
      rw [List.take_add_one, List.take_set_of_le (by omega)]
      simp [show i < y.length by omega]
    rw [h2, List.append_assoc] at h
    rw [List.set_set]
    exact h
theorem heldWriteS_x (l : List S82) : ∀ (pre : List S82) (a : Int), pre.length + l.length ≤ 1048576 → (∀ x ∈ l, x.f1.length ≤ 1048576) → 0 ≤ a → a + l.length * 1048577 ≤ 4611686018427387904 → Ev (fun k => laws_heldWriteS.l0 k (pre ++ mW a l) a pre.length) (tW a l) := by
  induction l with
  | nil =>
    intro pre a hl hb ha ha2
    refine Ev.step (fun k => by simp only [laws_heldWriteS.l0]; exact if_neg (by simp [mW])) ?_
    exact Ev.now _
  | cons x l ih =>
    intro pre a hl hb ha ha2
    have hx := hb x (by simp)
    simp only [List.length_cons] at hl ha2
    have hlen : (pre ++ mW a (x :: l)).length = pre.length + (l.length + 1) := by simp [mW_len]
    have e : rd_T82 (pre ++ mW a (x :: l)) (pre.length : Nat) = ⟨a, markB (a + 1) x.f1⟩ := by simp [rd_T82, mW]
    refine Ev.step (fun k => by simp only [laws_heldWriteS.l0]; rw [if_pos (by rw [hlen]; omega), if_pos (by omega), e, w64 (by omega) (by omega), w64 (by omega) (by omega)]) ?_
    refine Ev.pos (by trivial) (Ev.bind (heldByteS_ev (a + 1) (by omega) (by omega) x.f1 (by omega)) (Ev.neg (by omega) ?_))
    have h := ih (pre ++ [⟨a, markB (a + 1) x.f1⟩]) (a + 1 + x.f1.length) (by simp; omega) (fun y hy => hb y (by simp [hy])) (by omega) (by omega)
    rw [List.append_assoc, List.singleton_append, List.length_append, List.length_singleton] at h
    exact h
theorem markDisk_x (b : List Int) (l : List S82) (hb : b.length ≤ 1048576) (hl : l.length ≤ 1048576) (hx : ∀ x ∈ l, x.f1.length ≤ 1048576) : Ev (fun k => laws_markDisk.f k b l 1) (tW (1 + b.length) l, markB 1 b, mW (1 + b.length) l) := by
  simp only [laws_markDisk.f]
  refine Ev.bind (markByteS_ev 1 (by omega) (by omega) b (by omega)) ?_
  have h := markWriteS_x l.length 0 l (1 + b.length) (by omega) hl (by simpa using hx) (by omega) (by omega)
  rw [List.drop_zero, List.take_zero, List.nil_append] at h
  exact Ev.bind h (Ev.now _)
theorem heldDisk_x (b : List Int) (l : List S82) (hb : b.length ≤ 1048576) (hl : l.length ≤ 1048576) (hx : ∀ x ∈ l, x.f1.length ≤ 1048576) : Ev (fun k => laws_heldDisk.f k (markB 1 b) (mW (1 + b.length) l) 1) (tW (1 + b.length) l) := by
  simp only [laws_heldDisk.f]
  refine Ev.bind (heldByteS_ev 1 (by omega) (by omega) b (by omega)) (Ev.neg (by omega) ?_)
  have h := heldWriteS_x l [] (1 + b.length) (by simpa using hl) hx (by omega) (by omega)
  have hg := tW_ge l (1 + b.length)
  exact Ev.bind h (Ev.neg (by omega) (Ev.now _))
theorem l1Copy_l (l : List Int) (hl : l.length ≤ 1099511627776) (d : Nat) : ∀ (i : Nat) (x : List Int), i + d = l.length → x = l.take i → Ev (fun k => spec_l1Copy.l0 k l x i) l := by
  induction d with
  | zero =>
    intro i x hi hx
    refine Ev.step (fun k => by simp only [spec_l1Copy.l0]; exact if_neg (by omega)) ?_
    rw [hx, List.take_of_length_le (by omega)]; exact Ev.now _
  | succ d ih =>
    intro i x hi hx
    have hxl : x.length ≤ i := by rw [hx, List.length_take]; omega
    refine Ev.step (fun k => by simp only [spec_l1Copy.l0]; rw [if_pos (by omega), if_pos (by omega), if_pos (by omega), w64 (by omega) (by omega)]) ?_
    refine ih (i + 1) _ (by omega) ?_
    have : rd l (i : Int) = l[i] := by unfold rd; simp [show i < l.length by omega]
    rw [hx, List.take_add_one, List.getElem?_eq_getElem (by omega), this]
    simp
theorem l1Copy_ev (l : List Int) (hl : l.length ≤ 1099511627776) : Ev (fun k => spec_l1Copy.f k l) l := l1Copy_l l hl l.length 0 [] (by omega) rfl
def okW (n : Int) (x : S82) : Bool := !(decide (x.f0 < 0)) && !(decide (x.f0 ≥ n)) && decide (x.f1.length = 64)
def validD (b : List Int) (l : List S82) : Bool := decide (b.length % 64 = 0) && decide (1 ≤ b.length / 64) && decide (b.length / 64 ≤ 300) && decide (l.length ≤ 2000) && l.all (okW (b.length / 64 : Nat))
theorem specValid_l (n : Int) (b : List Int) (l : List S82) (hl : l.length ≤ 281474976710656) (d : Nat) : ∀ (i : Nat), i + d = l.length → Ev (fun k => spec_ValidDisk.l0 k n i b l) ((l.drop i).all (okW n)) := by
  induction d with
  | zero =>
    intro i hi
    refine Ev.step (fun k => by simp only [spec_ValidDisk.l0]; exact if_neg (by omega)) ?_
    rw [List.drop_of_length_le (by omega)]; exact Ev.now _
  | succ d ih =>
    intro i hi
    have e : rd_T82 l i = l[i] := by simp [rd_T82, show i < l.length by omega]
    refine Ev.step (fun k => by simp only [spec_ValidDisk.l0]; rw [if_pos (by omega), if_pos (by omega), e, w64 (by omega) (by omega)]) ?_
    rw [List.drop_eq_getElem_cons (by omega), List.all_cons]
    by_cases h1 : l[i].f0 < 0
    · simp only [okW, h1, decide_true, Bool.not_true, Bool.false_and]; exact Ev.pos (by trivial) (Ev.now _)
    by_cases h2 : l[i].f0 ≥ n
    · simp only [okW, h1, h2, decide_true, Bool.not_true, Bool.false_and, Bool.and_false]; exact Ev.neg (by simp) (Ev.pos (by trivial) (Ev.now _))
    by_cases h3 : l[i].f1.length = 64
    · have h3' : (l[i].f1.length : Int) = 64 := by omega
      have : okW n l[i] = true := by simp [okW, h1, h2, h3]
      rw [this, Bool.true_and]
      exact Ev.neg h1 (Ev.neg h2 (Ev.pos h3' (ih (i + 1) (by omega))))
    · have h3' : ¬(l[i].f1.length : Int) = 64 := by omega
      have : okW n l[i] = false := by simp [okW, h3]
      rw [this, Bool.false_and]
      exact Ev.neg h1 (Ev.neg h2 (Ev.neg h3' (Ev.now _)))
theorem implValid_l (n : Int) (l : List S82) (hl : l.length ≤ 281474976710656) (d : Nat) : ∀ (i : Nat), i + d = l.length → Ev (fun k => impl_ValidDisk.l0 k n l (l.length : Int) i) ((l.drop i).all (okW n)) := by
  induction d with
  | zero =>
    intro i hi
    refine Ev.step (fun k => by simp only [impl_ValidDisk.l0]; exact if_neg (by omega)) ?_
    rw [List.drop_of_length_le (by omega)]; exact Ev.now _
  | succ d ih =>
    intro i hi
    have e : rd_T82 l i = l[i] := by simp [rd_T82, show i < l.length by omega]
    refine Ev.step (fun k => by simp only [impl_ValidDisk.l0]; rw [if_pos (by omega), if_pos (by omega), if_pos (by omega), e, w64 (by omega) (by omega)]) ?_
    rw [List.drop_eq_getElem_cons (by omega), List.all_cons]
    by_cases h1 : l[i].f0 < 0
    · simp only [okW, h1, decide_true, Bool.not_true, Bool.false_and]; exact Ev.pos (by trivial) (Ev.now _)
    by_cases h2 : l[i].f0 ≥ n
    · simp only [okW, h1, h2, decide_true, Bool.not_true, Bool.false_and, Bool.and_false]; exact Ev.neg (by simp) (Ev.pos (by trivial) (Ev.now _))
    by_cases h3 : l[i].f1.length = 64
    · have h3' : (l[i].f1.length : Int) = 64 := by omega
      have : okW n l[i] = true := by simp [okW, h1, h2, h3]
      rw [this, Bool.true_and]
      exact Ev.neg h1 (Ev.neg h2 (Ev.pos h3' (ih (i + 1) (by omega))))
    · have h3' : ¬(l[i].f1.length : Int) = 64 := by omega
      have : okW n l[i] = false := by simp [okW, h3]
      rw [this, Bool.false_and]
      exact Ev.neg h1 (Ev.neg h2 (Ev.neg h3' (Ev.now _)))
theorem specValid_ev (b : List Int) (l : List S82) (hb : b.length ≤ 281474976710656) (hl : l.length ≤ 281474976710656) : Ev (fun k => spec_ValidDisk.f k b l) (validD b l) := by
  have e : spec_l1Blocks.f b l = some ((b.length / 64 : Nat) : Int) := by simp only [spec_l1Blocks.f]; rw [w64 (by omega) (by omega)]; rfl
  simp only [spec_ValidDisk.f]
  refine Ev.bindS e ?_
  have j1 : Ev (fun k => spec_ValidDisk.j0 k ((b.length / 64 : Nat) : Int) true b l) false := Ev.step (fun k => by simp only [spec_ValidDisk.j0]; exact if_pos trivial) (Ev.now _)
  by_cases nh1 : ¬(b.length % 64 = 0)
  · have h1 := nh1
    have : validD b l = false := by simp [validD, h1]
    rw [this]; exact Ev.neg (by omega) j1
  have h1 : b.length % 64 = 0 := by omega
  refine Ev.pos (by omega) ?_
  by_cases nh2 : ¬(1 ≤ b.length / 64)
  · have h2 := nh2
    have : validD b l = false := by simp [validD, h2]
    rw [this]; exact Ev.pos (by omega) j1
  have h2 : 1 ≤ b.length / 64 := by omega
  refine Ev.neg (by omega) ?_
  by_cases nh3 : ¬(b.length / 64 ≤ 300)
  · have h3 := nh3
    have : validD b l = false := by simp [validD, h3]
    rw [this]; exact Ev.pos (by omega) j1
  have h3 : b.length / 64 ≤ 300 := by omega
  refine Ev.neg (by omega) ?_
  by_cases nh4 : ¬(l.length ≤ 2000)
  · have h4 := nh4
    have : validD b l = false := by simp [validD, h4]
    rw [this]; rw [decide_eq_true (by omega)]; exact j1
  have h4 : l.length ≤ 2000 := by omega
  rw [decide_eq_false (by omega)]
  have : validD b l = (l.drop 0).all (okW (b.length / 64 : Nat)) := by simp only [validD, h1, h2, h3, h4, decide_true, Bool.true_and, List.drop_zero]
  rw [this]
  exact Ev.step (fun k => by simp only [spec_ValidDisk.j0]; exact if_neg (by simp)) (specValid_l _ b l hl l.length 0 (by omega))
theorem implValid_ev (b : List Int) (l : List S82) (hb : b.length ≤ 281474976710656) (hl : l.length ≤ 281474976710656) : Ev (fun k => impl_ValidDisk.f k b l) (validD b l) := by
  have e : impl_Disk_blocks.f b l = some ((b.length / 64 : Nat) : Int) := by simp only [impl_Disk_blocks.f]; rw [w64 (by omega) (by omega)]; rfl
  simp only [impl_ValidDisk.f]
  refine Ev.bindS e ?_
  have j1 : Ev (fun k => impl_ValidDisk.j0 k ((b.length / 64 : Nat) : Int) true b l) false := Ev.step (fun k => by simp only [impl_ValidDisk.j0]; exact if_pos trivial) (Ev.now _)
  by_cases nh1 : ¬(b.length % 64 = 0)
  · have h1 := nh1
    have : validD b l = false := by simp [validD, h1]
    rw [this]; exact Ev.neg (by omega) j1
  have h1 : b.length % 64 = 0 := by omega
  refine Ev.pos (by omega) ?_
  by_cases nh2 : ¬(1 ≤ b.length / 64)
  · have h2 := nh2
    have : validD b l = false := by simp [validD, h2]
    rw [this]; exact Ev.pos (by omega) j1
  have h2 : 1 ≤ b.length / 64 := by omega
  refine Ev.neg (by omega) ?_
  by_cases nh3 : ¬(b.length / 64 ≤ 300)
  · have h3 := nh3
    have : validD b l = false := by simp [validD, h3]
    rw [this]; exact Ev.pos (by omega) j1
  have h3 : b.length / 64 ≤ 300 := by omega
  refine Ev.neg (by omega) ?_
  by_cases nh4 : ¬(l.length ≤ 2000)
  · have h4 := nh4
    have : validD b l = false := by simp [validD, h4]
    rw [this]; rw [decide_eq_true (by omega)]; exact j1
  have h4 : l.length ≤ 2000 := by omega
  rw [decide_eq_false (by omega)]
  have : validD b l = (l.drop 0).all (okW (b.length / 64 : Nat)) := by simp only [validD, h1, h2, h3, h4, decide_true, Bool.true_and, List.drop_zero]
  rw [this]
  exact Ev.step (fun k => by simp only [impl_ValidDisk.j0]; exact if_neg (by simp)) (implValid_l _ l hl l.length 0 (by omega))

theorem put1_0 (D : List Int) (b : Nat) (data : List Int) : put1 D b data 0 = D := by simp [put1]
theorem put1_set (D : List Int) (b : Nat) (data : List Int) (j : Nat) (hb : 64 * b + 64 ≤ D.length) (hj : j < 64) (hd : data.length = 64) : (put1 D b data j).set (64 * b + j) (rd data (j : Int)) = put1 D b data (j + 1) := by
  have e : rd data (j : Int) = data[j] := by unfold rd; simp [show j < data.length by omega]
  have hl : (D.take (64 * b) ++ data.take j).length = 64 * b + j := by simp only [List.length_append, List.length_take]; omega
  unfold put1
  rw [List.set_append_right _ _ (by omega), hl, Nat.sub_self, List.drop_eq_getElem_cons (show 64 * b + j < D.length by omega), List.set_cons_zero, e, List.take_add_one, List.getElem?_eq_getElem (show j < data.length by omega)]
  simp only [Option.toList_some, List.append_assoc, List.singleton_append, Nat.add_assoc, List.cons_append, List.nil_append]
theorem settle_1 (ch : List Int) (b : List Int) (l : List S82) (cs : List Int) (hl : l.length ≤ 2000) (i : Nat) (hi : i < l.length) (n : Nat) (hn : (rd_T82 l (i : Int)).f0 = (n : Int)) (D : List Int) (hD : 64 * n + 64 ≤ D.length) (hDl : D.length ≤ 1048576) (hd : (rd_T82 l (i : Int)).f1.length = 64) (hcl : i < cs.length) (c : Nat) (hc : rd cs (i : Int) = (c : Int)) (hc2 : c ≤ 64) (r : List Int × List S82)
    (next : Ev (fun k => spec_l1Settle.l0 k cs (i + 1 : Nat) b l (put1 D n (rd_T82 l (i : Int)).f1 c)) r) (d : Nat) : ∀ j : Nat, j + d = c → Ev (fun k => spec_l1Settle.l1 k cs i j b l (put1 D n (rd_T82 l (i : Int)).f1 j)) r := by
  induction d with
  | zero =>
    intro j hj
    obtain rfl : j = c := by omega
    refine Ev.step (fun k => by simp only [spec_l1Settle.l1]; rw [if_pos (by omega), if_pos (by omega), hc, if_neg (by omega), w64 (x := (i : Int) + 1) (by omega) (by omega)]) ?_
    exact next
  | succ d ih =>
    intro j hj
    have hpl := put1_len (b := n) (c := j) hD (by omega) hd
    have e1 : wrap64 (wrap64 ((rd_T82 l (i : Int)).f0 * 64) + (j : Int)) = ((64 * n + j : Nat) : Int) := by
      rw [hn, w64 (x := (n : Int) * 64) (by omega) (by omega), w64 (by omega) (by omega)]; omega
    refine Ev.step (fun k => by simp only [spec_l1Settle.l1]; rw [if_pos (by omega), if_pos (by omega), hc, if_pos (by omega), if_pos (by omega), if_pos (by omega), if_pos (by omega), e1, if_pos (by omega), if_pos (by omega), w64 (x := (j : Int) + 1) (by omega) (by omega), Int.toNat_natCast, put1_set D n _ j hD (by omega) hd]) ?_
    exact ih (j + 1) (by omega)
theorem settle_l (ch : List Int) (b : List Int) (l : List S82) (cs : List Int) (hl : l.length ≤ 2000) (hbl : b.length ≤ 1048576) (hv : ∀ i : Nat, i < l.length → (rd_T82 l (i : Int)).f1.length = 64) (hb : ∀ i : Nat, i < l.length → 0 ≤ (rd_T82 l (i : Int)).f0 ∧ 64 * (rd_T82 l (i : Int)).f0 + 64 ≤ b.length) (hcs : cs.length = l.length) (hcv : ∀ i : Nat, i < l.length → rd cs (i : Int) = chI ch i) (d : Nat) : ∀ i : Nat, i + d = l.length → Ev (fun k => spec_l1Settle.l0 k cs i b l (crashD b l ch i)) (crashD b l ch l.length, []) := by
  induction d with
  | zero =>
    intro i hi
    obtain rfl : i = l.length := by omega
    exact Ev.step (fun k => by simp only [spec_l1Settle.l0]; exact if_neg (by omega)) (Ev.now _)
  | succ d ih =>
    intro i hi
    have hlen := crashD_len (ch := ch) hv hb i (by omega)
    have hbi := hb i (by omega)
    have hci := chI_le ch i
    refine Ev.step (fun k => by simp only [spec_l1Settle.l0]; rw [if_pos (by omega)]) ?_
    have h := settle_1 ch b l cs hl i (by omega) (rd_T82 l (i : Int)).f0.toNat (by omega) (crashD b l ch i) (by omega) (by omega) (hv i (by omega)) (by omega) (chI ch i).toNat (by rw [hcv i (by omega)]; omega) (by omega) _ (ih (i + 1) (by omega)) (chI ch i).toNat 0 (by omega)
    rw [put1_0] at h
    exact h
theorem valid_parts {b : List Int} {l : List S82} (h : validD b l = true) : 64 ≤ b.length ∧ l.length ≤ 2000 ∧ l.all (fun p => decide (p.f1.length = 64)) = true ∧ l.all (fun p => decide (0 ≤ p.f0 ∧ 64 * p.f0 + 64 ≤ (b.length : Int))) = true := by
  simp only [validD, Bool.and_eq_true, decide_eq_true_eq] at h
  obtain ⟨⟨⟨⟨h1, h2⟩, h3⟩, h4⟩, h5⟩ := h
  refine ⟨by omega, h4, ?_, ?_⟩
  · rw [List.all_eq_true] at *
    intro x hx
    have := h5 x hx
    simp only [okW, Bool.and_eq_true] at this
    exact this.2
  · rw [List.all_eq_true] at *
    intro x hx
    have := h5 x hx
    simp only [okW, Bool.and_eq_true, Bool.not_eq_true', decide_eq_false_iff_not] at this
    exact decide_eq_true (by omega)
theorem put1_get (D : List Int) (b : Nat) (d : List Int) (hb : 64 * b + 64 ≤ D.length) (hd : d.length = 64) (i : Nat) : (put1 D b d 64)[i]? = if 64 * b ≤ i ∧ i < 64 * b + 64 then d[i - 64 * b]? else D[i]? := by
  have e : d.take 64 = d := List.take_of_length_le (by omega)
  unfold put1
  rw [e]
  have l1 : (D.take (64 * b)).length = 64 * b := by simp; omega
  by_cases h1 : i < 64 * b
  · rw [if_neg (by omega), List.getElem?_append_left (by simp only [List.length_append, l1]; omega), List.getElem?_append_left (by omega), List.getElem?_take, if_pos h1]
  · by_cases h2 : i < 64 * b + 64
    · rw [if_pos (by omega), List.getElem?_append_left (by simp only [List.length_append, l1]; omega), List.getElem?_append_right (by omega), l1]
    · rw [if_neg (by omega), List.getElem?_append_right (by simp only [List.length_append, l1]; omega), List.length_append, l1, hd, List.getElem?_drop]
      congr 1; omega
theorem put1_comm (D : List Int) (a b : Nat) (x y : List Int) (hab : a ≠ b) (ha : 64 * a + 64 ≤ D.length) (hb : 64 * b + 64 ≤ D.length) (hx : x.length = 64) (hy : y.length = 64) : put1 (put1 D a x 64) b y 64 = put1 (put1 D b y 64) a x 64 := by
  have l1 := put1_len (c := 64) ha (Nat.le_refl _) hx
  have l2 := put1_len (c := 64) hb (Nat.le_refl _) hy
  apply List.ext_getElem?
  intro i
  rw [put1_get _ _ _ (by omega) hy, put1_get _ _ _ ha hx, put1_get _ _ _ (by omega) hx, put1_get _ _ _ hb hy]
  by_cases h1 : 64 * a ≤ i ∧ i < 64 * a + 64
  · rw [if_neg (show ¬ (64 * b ≤ i ∧ i < 64 * b + 64) by omega), if_pos h1, if_pos h1]
  · rw [if_neg h1, if_neg h1]
theorem put1_twice (D : List Int) (a : Nat) (x y : List Int) (ha : 64 * a + 64 ≤ D.length) (hx : x.length = 64) (hy : y.length = 64) : put1 (put1 D a x 64) a y 64 = put1 D a y 64 := by
  have l1 := put1_len (c := 64) ha (Nat.le_refl _) hx
  apply List.ext_getElem?
  intro i
  rw [put1_get _ _ _ (by omega) hy, put1_get _ _ _ ha hx, put1_get _ _ _ ha hy]
  by_cases h1 : 64 * a ≤ i ∧ i < 64 * a + 64
  · rw [if_pos h1, if_pos h1]
  · rw [if_neg h1, if_neg h1, if_neg h1]
def okP (n : Nat) (p : Int × List Int) : Prop := 0 ≤ p.1 ∧ 64 * p.1 + 64 ≤ (n : Int) ∧ p.2.length = 64
theorem syncD_put {n : Nat} : ∀ (m : List (Int × List Int)) (D : List Int), D.length = n → (∀ p ∈ m, okP n p) → ∀ (k : Int) (v : List Int), okP n (k, v) → (∀ p ∈ m, p.1 ≠ k) → syncD (put1 D k.toNat v 64) m = put1 (syncD D m) k.toNat v 64 := by
  intro m
  induction m with
  | nil => intro D _ _ k v _ _; rfl
  | cons p m ih =>
    intro D hD hm k v hk hne
    have hp := hm p (by simp)
    have hpk := hne p (by simp)
    obtain ⟨a1, a2, a3⟩ := hp
    obtain ⟨b1, b2, b3⟩ := hk
    simp only at b1 b2 b3
    have e : put1 (put1 D k.toNat v 64) p.1.toNat p.2 64 = put1 (put1 D p.1.toNat p.2 64) k.toNat v 64 := put1_comm D _ _ _ _ (by omega) (by omega) (by omega) b3 a3
    have hl : (put1 D p.1.toNat p.2 64).length = n := by rw [put1_len (by omega) (Nat.le_refl _) a3]; exact hD
    have := ih (put1 D p.1.toNat p.2 64) hl (fun q hq => hm q (by simp [hq])) k v ⟨b1, b2, b3⟩ (fun q hq => hne q (by simp [hq]))
    simp only [syncD, List.foldl_cons] at this ⊢
    rw [e]
    exact this
theorem syncD_aset {n : Nat} : ∀ (m : List (Int × List Int)) (D : List Int), D.length = n → (∀ p ∈ m, okP n p) → (m.map Prod.fst).Nodup → ∀ (k : Int) (v : List Int), okP n (k, v) → syncD D (YtlpjpmfhkmddjaaH.aset m k v) = put1 (syncD D m) k.toNat v 64 := by
  intro m
  induction m with
  | nil => intro D _ _ _ k v _; rfl
  | cons p m ih =>
    intro D hD hm hnd k v hk
    obtain ⟨k', v'⟩ := p
    obtain ⟨a1, a2, a3⟩ := hm (k', v') (by simp)
    obtain ⟨b1, b2, b3⟩ := hk
    simp only at a1 a2 a3 b1 b2 b3
    rw [List.map_cons, List.nodup_cons] at hnd
    have hl : (put1 D k'.toNat v' 64).length = n := by rw [put1_len (by omega) (Nat.le_refl _) a3]; exact hD
    by_cases c : k' = k
    · subst c
      have hne : ∀ q ∈ m, q.1 ≠ k' := fun q hq e => hnd.1 (show k' ∈ m.map Prod.fst by rw [← e]; exact List.mem_map_of_mem (f := Prod.fst) hq)
      have h1 := syncD_put m (put1 D k'.toNat v' 64) hl (fun q hq => hm q (by simp [hq])) k' v ⟨b1, b2, b3⟩ hne
      rw [put1_twice D _ _ _ (by omega) a3 b3] at h1
      simp only [YtlpjpmfhkmddjaaH.aset, if_pos, syncD, List.foldl_cons] at h1 ⊢
      exact h1
    · have := ih (put1 D k'.toNat v' 64) hl (fun q hq => hm q (by simp [hq])) hnd.2 k v ⟨b1, b2, b3⟩
      simp only [YtlpjpmfhkmddjaaH.aset, if_neg c, syncD, List.foldl_cons] at this ⊢
      exact this
theorem aset_nodup : ∀ (m : List (Int × List Int)) (k : Int) (v : List Int), (m.map Prod.fst).Nodup → ((YtlpjpmfhkmddjaaH.aset m k v).map Prod.fst).Nodup ∧ ∀ p ∈ YtlpjpmfhkmddjaaH.aset m k v, p.1 = k ∨ p.1 ∈ m.map Prod.fst := by
  intro m
  induction m with
  | nil => intro k v _; refine ⟨by simp [YtlpjpmfhkmddjaaH.aset], fun p hp => .inl ?_⟩; simp only [YtlpjpmfhkmddjaaH.aset, List.mem_singleton] at hp; rw [hp]
  | cons q m ih =>
    intro k v h
    obtain ⟨k', v'⟩ := q
    rw [List.map_cons, List.nodup_cons] at h
    by_cases c : k' = k
    · subst c
      simp only [YtlpjpmfhkmddjaaH.aset, if_pos]
      refine ⟨by rw [List.map_cons, List.nodup_cons]; exact h, fun p hp => ?_⟩
      rcases List.mem_cons.mp hp with rfl | hp
      · exact .inl rfl
      · exact .inr (by rw [List.map_cons]; exact List.mem_cons_of_mem _ (List.mem_map_of_mem hp))
    · obtain ⟨i1, i2⟩ := ih k v h.2
      simp only [YtlpjpmfhkmddjaaH.aset, if_neg c]
      refine ⟨?_, fun p hp => ?_⟩
      · rw [List.map_cons, List.nodup_cons]
        refine ⟨fun hm => ?_, i1⟩
        obtain ⟨p, hp, he⟩ := List.mem_map.mp hm
        rcases i2 p hp with h1 | h1
        · exact c (by simp only at he; rw [← he, h1])
        · exact h.1 (by simp only at he; rw [← he]; exact h1)
      · rcases List.mem_cons.mp hp with rfl | hp
        · exact .inr (by simp)
        · rcases i2 p hp with h1 | h1
          · exact .inl h1
          · exact .inr (by rw [List.map_cons]; exact List.mem_cons_of_mem _ h1)
theorem yl_self : ∀ (m : List (Int × List Int)), (m.map Prod.fst).Nodup → yl m = m := by
  intro m
  induction m with
  | nil => intro _; rfl
  | cons p m ih =>
    intro h
    obtain ⟨k, v⟩ := p
    rw [List.map_cons, List.nodup_cons] at h
    have := ih h.2
    unfold yl at this ⊢
    rw [List.map_cons]
    simp only [YtlpjpmfhkmddjaaH.aget, if_pos, Option.getD_some, List.cons.injEq, true_and]
    rw [List.map_congr_left (g := fun p : Int × List Int => (p.1, (YtlpjpmfhkmddjaaH.aget m p.1).getD z64))]
    · exact this
    · intro q hq
      have hne : ¬ k = q.1 := fun e => h.1 (show k ∈ m.map Prod.fst by rw [e]; exact List.mem_map_of_mem (f := Prod.fst) hq)
      simp only [YtlpjpmfhkmddjaaH.aget, if_neg hne]
theorem yng_nodup (l : List S82) : ((yng l).map Prod.fst).Nodup := by
  have : ∀ (l : List S82) (m : List (Int × List Int)), (m.map Prod.fst).Nodup → ((l.foldl (fun m p => YtlpjpmfhkmddjaaH.aset m p.f0 p.f1) m).map Prod.fst).Nodup := by
    intro l
    induction l with
    | nil => intro m hm; exact hm
    | cons x l ih => intro m hm; exact ih _ (aset_nodup m _ _ hm).1
  exact this l [] (by simp)
theorem sync_is (b : List Int) (l : List S82) (ch : List Int) (hch : ∀ i : Nat, i < l.length → chI ch i = 64) (h64 : l.all (fun p => decide (p.f1.length = 64)) = true) (hbd : l.all (fun p => decide (0 ≤ p.f0 ∧ 64 * p.f0 + 64 ≤ (b.length : Int))) = true) : syncD b (yl (yng l)) = crashD b l ch l.length := by
  rw [yl_self _ (yng_nodup l)]
  have key : ∀ i : Nat, i ≤ l.length → syncD b (yng (l.take i)) = crashD b l ch i := by
    intro i
    induction i with
    | zero => intro _; rfl
    | succ i ih =>
      intro hi
      have hv := pend_all h64 i (by omega)
      have hb := pend_bd hbd i (by omega)
      have h64' : (l.take i).all (fun p => decide (p.f1.length = 64)) = true := List.all_eq_true.mpr fun p hp => List.all_eq_true.mp h64 p (List.mem_of_mem_take hp)
      have hbd' : (l.take i).all (fun p => decide (0 ≤ p.f0 ∧ 64 * p.f0 + 64 ≤ (b.length : Int))) = true := List.all_eq_true.mpr fun p hp => List.all_eq_true.mp hbd p (List.mem_of_mem_take hp)
      rw [take_rd (show i < l.length by omega), yng_snoc, syncD_aset (n := b.length) (yng (l.take i)) b rfl (fun p hp => ⟨(yng_bd hbd' p hp).1, (yng_bd hbd' p hp).2, yng_64 h64' p hp⟩) (yng_nodup _) _ _ ⟨hb.1, hb.2, hv⟩, ih (by omega)]
      simp only [crashD]
      rw [hch i (by omega)]
      rfl
  have := key l.length (Nat.le_refl _)
  rw [List.take_length] at this
  exact this
theorem specSync_l (b : List Int) (l : List S82) (hl : l.length ≤ 2000) (r : List Int × List S82) (fin : Ev (fun k => spec_l1Settle.f k b l (List.replicate l.length 64)) r) (d : Nat) : ∀ i : Nat, i + d = l.length → Ev (fun k => spec_DiskSync.l0 k (List.replicate i 64) i b l) r := by
  induction d with
  | zero =>
    intro i hi
    obtain rfl : i = l.length := by omega
    refine Ev.step (fun k => by simp only [spec_DiskSync.l0]; exact if_neg (by omega)) ?_
    obtain ⟨r1, r2⟩ := r
    exact Ev.bind fin (Ev.now _)
  | succ d ih =>
    intro i hi
    have hnx := ih (i + 1) (by omega)
    rw [List.replicate_succ'] at hnx
    have hlen : (List.replicate i (64 : Int)).length < 17592186044416 := by simp; omega
    refine Ev.step (fun k => by
      simp only [spec_DiskSync.l0]
      rw [if_pos (by omega), if_pos hlen, w64 (by omega) (by omega)]) ?_
    exact hnx
def syncM (b : List Int) (l : List S82) : List Int × List S82 := if validD b l = true then (syncD b (yl (yng l)), []) else ([], [])
theorem ch64 (n : Nat) : ∀ i : Nat, i < n → chI (List.replicate n 64) i = 64 := by
  intro i hi
  unfold chI rd
  simp only [List.length_replicate, Int.toNat_natCast]
  rw [if_pos (show (i : Int) < (n : Int) by omega)]
  have e : (List.replicate n (64 : Int)).getD i 0 = 64 := by simp [hi]
  rw [e]
  decide
theorem specSync_ev (b : List Int) (l : List S82) (hb : b.length ≤ 1048576) (hl : l.length ≤ 1048576) : Ev (fun k => spec_DiskSync.f k b l) (syncM b l) := by
  simp only [spec_DiskSync.f]
  refine Ev.bind (specValid_ev b l (by omega) (by omega)) ?_
  by_cases hv : validD b l = true
  · refine Ev.pos hv ?_
    obtain ⟨v1, v2, v3, v4⟩ := valid_parts hv
    rw [show syncM b l = (crashD b l (List.replicate l.length 64) l.length, []) by unfold syncM; rw [if_pos hv, sync_is b l _ (ch64 l.length) v3 v4]]
    refine specSync_l b l v2 _ ?_ l.length 0 (by omega)
    simp only [spec_l1Settle.f]
    exact Ev.bind (l1Copy_ev b (by omega)) (settle_l (List.replicate l.length 64) b l _ v2 hb (pend_all v3) (pend_bd v4) (by simp) (fun i hi => by rw [ch64 l.length i hi]; unfold rd; simp [hi]) l.length 0 (by omega))
  · rw [show syncM b l = ([], []) from if_neg hv]
    exact Ev.neg hv (Ev.now _)
theorem implSync_ev (b : List Int) (l : List S82) (hb : b.length ≤ 1048576) (hl : l.length ≤ 1048576) : Ev (fun k => impl_DiskSync.f k b l) (syncM b l) := by
  simp only [impl_DiskSync.f]
  refine Ev.bind (implValid_ev b l (by omega) (by omega)) ?_
  by_cases hv : validD b l = true
  · refine Ev.pos hv ?_
    rw [show syncM b l = (syncD b (yl (yng l)), []) from if_pos hv]
    obtain ⟨v1, v2, v3, v4⟩ := valid_parts hv
    refine Ev.ofE ?_
    simp only [impl_DiskSync.g]
    exact if_pos ⟨by omega, by omega, by omega, v3, v4⟩
  · rw [show syncM b l = ([], []) from if_neg hv]
    exact Ev.neg hv (Ev.now _)
theorem FnExactDiskSync : laws_FnExactDiskSync.Pure := by
  intro b l hb hl
  simp only [maxLen] at hb hl
  apply Ev.rounds
  simp only [laws_FnExactDiskSync.f]
  obtain ⟨r, e, h⟩ := szDisk_ev b l 1048576 (by have := hb.1; omega) (by have := hl.1; omega) (fun x hx => by have := (hl.2 x hx).2.1; omega) (by omega) (by omega)
  refine Ev.bind e ?_
  by_cases hr : r < 0
  · exact Ev.pos hr (Ev.now _)
  refine Ev.neg hr ?_
  obtain ⟨h0, h1, h2⟩ : 0 ≤ r ∧ r + b.length + l.length ≤ 1048576 ∧ ∀ x ∈ l, (x.f1.length : Int) ≤ 1048576 := by
    rcases h with h | h
    · omega
    · exact h
  have hx : ∀ x ∈ l, x.f1.length ≤ 281474976710656 := fun x hx => by have := h2 x hx; omega
  have hm : ∀ x ∈ l.map cvW, x.f1.length ≤ 1048576 := by
    intro x hx2; obtain ⟨y, hy, rfl⟩ := List.mem_map.mp hx2; have := h2 y hy; simp only [cvW]; omega
  have hm2 : ∀ x ∈ l.map cvW, x.f1.length ≤ 281474976710656 := fun x hx => by have := hm x hx; omega
  have hlm : (l.map cvW).length ≤ 1048576 := by simp; omega
  refine Ev.bind (toDisk_ev b l (by omega) (by omega) hx) ?_
  simp only [laws_FnExactDiskSync.g]
  refine Ev.bind (specSync_ev b _ (by omega) hlm) (Ev.bind (implSync_ev b _ (by omega) hlm) ?_)
  obtain ⟨g1, g2, hg, hg1, hg2, hg3⟩ : ∃ g1 g2, syncM b (l.map cvW) = (g1, g2) ∧ g1.length ≤ 1048576 ∧ g2.length ≤ 1048576 ∧ ∀ x ∈ g2, x.f1.length ≤ 1048576 := by
    by_cases hc : validD b (l.map cvW) = true
    · obtain ⟨v1, v2, v3, v4⟩ := valid_parts hc
      refine ⟨syncD b (yl (yng (l.map cvW))), [], by unfold syncM; exact if_pos hc, ?_, by simp, by simp⟩
      rw [syncD_len _ (yl_ok (yng_64 v3) (yng_bd v4))]; omega
    · exact ⟨[], [], by unfold syncM; exact if_neg hc, by simp, by simp, by simp⟩
  rw [hg]
  refine Ev.bind (markDisk_x b (l.map cvW) (by omega) hlm hm) ?_
  have ht := tW_ge (l.map cvW) (1 + b.length)
  have htu : tW (1 + b.length) (l.map cvW) ≤ 4611686018000000000 := by
    have : ∀ (l : List S82) (a : Int), (∀ x ∈ l, x.f1.length ≤ 1048576) → tW a l ≤ a + l.length * 1048577 := by
      intro l
      induction l with
      | nil => intro a _; simp [tW]
      | cons x l ih =>
        intro a h
        have h1 := ih (a + 1 + x.f1.length) (fun y hy => h y (by simp [hy]))
        have h2 := h x (by simp)
        simp only [tW, List.length_cons]
        omega
    have := this (l.map cvW) (1 + b.length) hm
    omega
  refine Ev.bind (markDisk_x g1 g2 hg1 hg2 hg3) ?_
  have ht2 := tW_ge g2 (1 + g1.length)
  obtain ⟨k1, e1⟩ := eqDisk_ev g1 g2 (by omega) (by omega) (fun x hx => by have := hg3 x hx; omega)
  obtain ⟨k2, e2⟩ := eqDisk_ev b (l.map cvW) (by omega) (by omega) hm2
  obtain ⟨k3, e3⟩ := heldDisk_x g1 g2 hg1 hg2 hg3
  refine ⟨k1 + k2 + k3, fun k hk => if_pos ⟨e1 k (by omega), e2 k (by omega), by simp only; omega, by simp only; omega, e3 k (by omega)⟩⟩

end Go.Proofs.Ytlpjpmfhkmddjaa.Pure
