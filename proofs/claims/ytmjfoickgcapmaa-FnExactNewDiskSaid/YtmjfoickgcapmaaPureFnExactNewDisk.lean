/- What is proved: the law FnExactNewDisk returns true: at every number of blocks the program's NewDisk gives the reference's disk, in memory of its own. Conditions: none. -/
import Derived.Test.YtmjfoickgcapmaaGFnExactNewDiskx2
namespace Go.Proofs.Ytmjfoickgcapmaa.Pure
open Go.RowKit Go.Proofs.Ytmjfoickgcapmaa.GFnExactNewDisk Go.Proofs.YtmjfoickgcapmaaW.PrintWords Go.Proofs.YtmjfoickgcapmaaW.PrintLast Go.Proofs.YtmjfoickgcapmaaW.PrintMore
set_option linter.unusedVariables false
set_option linter.unusedSimpArgs false

theorem w64 {x : Int} (h0 : -9223372036854775808 ≤ x) (h1 : x < 9223372036854775808) : wrap64 x = x := by unfold wrap64; omega
theorem u8_wf {x : Int} (h : (Lit.int .u8 x).wf = true) : 0 ≤ x ∧ x ≤ 255 := by
  simp [Lit.wf, IntKind.min, IntKind.max, IntKind.signed, IntKind.bits] at h
  omega
theorem Ev.pos {α : Type} {c : Prop} [Decidable c] {f g : Nat → Option α} {r : α} (hc : c) (h : Ev f r) : Ev (fun n => if c then f n else g n) r := Ev.congr (fun _ => if_pos hc) h
theorem Ev.neg {α : Type} {c : Prop} [Decidable c] {f g : Nat → Option α} {r : α} (hc : ¬c) (h : Ev g r) : Ev (fun n => if c then f n else g n) r := Ev.congr (fun _ => if_neg hc) h
theorem Ev.ofE {α : Type} {f : Option α} {r : α} (h : f = some r) : Ev (fun _ => f) r := ⟨0, fun _ _ => h⟩
theorem Ev.bindS {α β : Type} {g : Option α} {f : Nat → α → Option β} {a : α} {r : β} (h : g = some a) (k : Ev (fun n => f n a) r) : Ev (fun n => g.bind (f n)) r := Ev.congr (fun _ => by rw [h]; rfl) k
theorem eqByteS_l (x : List Int) (hl : x.length ≤ 281474976710656) (d : Nat) : ∀ (i : Nat), i + d = x.length → ∀ k, d < k → laws_eqByteS.l0 k x x i = some true := by
  induction d with
  | zero =>
    intro i hi k hk
    obtain ⟨k, rfl⟩ : ∃ m, k = m + 1 := ⟨k - 1, by omega⟩
    simp only [laws_eqByteS.l0]
    rw [if_neg (by omega)]
  | succ d ih =>
    intro i hi k hk
    obtain ⟨k, rfl⟩ : ∃ m, k = m + 1 := ⟨k - 1, by omega⟩
    simp only [laws_eqByteS.l0]
    rw [if_pos (by omega), if_pos (by omega), if_pos (by omega), if_pos trivial, w64 (by omega) (by omega)]
    exact ih (i + 1) (by omega) k (by omega)
theorem eqByteS_ev (l : List Int) (hl : l.length ≤ 281474976710656) : Ev (fun k => laws_eqByteS.f k l l) true := by
  refine ⟨l.length + 1, fun k hk => ?_⟩
  simp only [laws_eqByteS.f]
  rw [if_pos trivial]
  exact eqByteS_l l hl l.length 0 (by omega) k (by omega)

theorem eqWrite_ev (x : S85) (h : x.f1.length ≤ 281474976710656) : Ev (fun k => laws_eqWrite.f k x.f0 x.f1 x.f0 x.f1) true := by
  simp only [laws_eqWrite.f]
  exact Ev.pos (by trivial) (Ev.bind (eqByteS_ev _ h) (Ev.pos (by trivial) (Ev.now _)))
theorem eqWriteS_l (l : List S85) (hl : l.length ≤ 281474976710656) (hb : ∀ x ∈ l, x.f1.length ≤ 281474976710656) (d : Nat) : ∀ (i : Nat), i + d = l.length → Ev (fun k => laws_eqWriteS.l0 k l l i) true := by
  induction d with
  | zero =>
    intro i hi
    refine Ev.step (fun k => by simp only [laws_eqWriteS.l0]; exact if_neg (by omega)) (Ev.now _)
  | succ d ih =>
    intro i hi
    refine Ev.step (fun k => by simp only [laws_eqWriteS.l0]; rw [if_pos (by omega), if_pos (by omega), if_pos (by omega), w64 (by omega) (by omega)]) ?_
    have e : rd_T85 l i = l[i] := by simp [rd_T85, show i < l.length by omega]
    rw [e]
    refine Ev.bind (eqWrite_ev l[i] (hb _ (List.getElem_mem _))) ?_
    exact Ev.pos (by trivial) (ih (i + 1) (by omega))
theorem eqWriteS_ev (l : List S85) (hl : l.length ≤ 281474976710656) (hb : ∀ x ∈ l, x.f1.length ≤ 281474976710656) : Ev (fun k => laws_eqWriteS.f k l l) true := by
  simp only [laws_eqWriteS.f]
  exact Ev.pos (by trivial) (eqWriteS_l l hl hb l.length 0 (by omega))
theorem eqDisk_ev (a : List Int) (l : List S85) (ha : a.length ≤ 281474976710656) (hl : l.length ≤ 281474976710656) (hb : ∀ x ∈ l, x.f1.length ≤ 281474976710656) : Ev (fun k => laws_eqDisk.f k a l a l) true := by
  simp only [laws_eqDisk.f]
  exact Ev.bind (eqByteS_ev _ ha) (Ev.pos (by trivial) (Ev.bind (eqWriteS_ev _ hl hb) (Ev.pos (by trivial) (Ev.now _))))

def markB (a : Int) (l : List Int) : List Int := (List.range l.length).map fun i : Nat => (a + (i : Int)) % 256
theorem markByteS_l (a : Int) (ha : 0 ≤ a) (ha2 : a ≤ 4611686018427387904) (n : Nat) (hl : n ≤ 281474976710656) (d : Nat) : ∀ (i : Nat) (x : List Int), i + d = n → x.length = n → x.take i = (List.range i).map (fun i : Nat => (a + (i : Int)) % 256) → ∀ k, d < k → laws_markByteS.l0 k x (a + i) i = some (a + n, (List.range n).map fun i : Nat => (a + (i : Int)) % 256) := by
  induction d with
  | zero =>
    intro i x hi hx ht k hk
    obtain ⟨k, rfl⟩ : ∃ m, k = m + 1 := ⟨k - 1, by omega⟩
    simp only [laws_markByteS.l0]
    rw [if_neg (by omega)]
    rw [List.take_of_length_le (by omega)] at ht
    obtain rfl : i = n := by omega
    rw [ht]
  | succ d ih =>
    intro i x hi hx ht k hk
    obtain ⟨k, rfl⟩ : ∃ m, k = m + 1 := ⟨k - 1, by omega⟩
    simp only [laws_markByteS.l0]
    rw [if_pos (by omega), if_pos (by omega), w64 (by omega) (by omega), w64 (by omega) (by omega), Int.toNat_natCast]
    have e1 : a + (i : Int) + 1 = a + ((i + 1 : Nat) : Int) := by omega
    have e2 : (i : Int) + 1 = ((i + 1 : Nat) : Int) := by omega
    rw [e1, e2]
    refine ih (i + 1) _ (by omega) (by simpa using hx) ?_ k (by omega)
    rw [List.range_succ, List.map_append, ← ht, List.take_add_one]
    simp [List.take_set_of_le, hx, show i < n by omega]
theorem markByteS_ev (a : Int) (ha : 0 ≤ a) (ha2 : a ≤ 4611686018427387904) (l : List Int) (hl : l.length ≤ 281474976710656) : Ev (fun k => laws_markByteS.f k l a) (a + l.length, markB a l) := by
  refine ⟨l.length + 1, fun k hk => ?_⟩
  simp only [laws_markByteS.f]
  have := markByteS_l a ha ha2 l.length hl l.length 0 l (by omega) rfl (by simp) k (by omega)
  simpa [markB] using this
theorem heldByteS_l (a : Int) (ha : 0 ≤ a) (ha2 : a ≤ 4611686018427387904) (l : List Int) (hl : l.length ≤ 281474976710656) (d : Nat) : ∀ (i : Nat), i + d = l.length → ∀ k, d < k → laws_heldByteS.l0 k (markB a l) (a + i) i = some (a + l.length) := by
  have hml : (markB a l).length = l.length := by simp [markB]
  induction d with
  | zero =>
    intro i hi k hk
    obtain ⟨k, rfl⟩ : ∃ m, k = m + 1 := ⟨k - 1, by omega⟩
    simp only [laws_heldByteS.l0]
    rw [if_neg (by omega)]
    obtain rfl : i = l.length := by omega
    rfl
  | succ d ih =>
    intro i hi k hk
    obtain ⟨k, rfl⟩ : ∃ m, k = m + 1 := ⟨k - 1, by omega⟩
    simp only [laws_heldByteS.l0]
    have hrd : rd (markB a l) i = (a + (i : Int)) % 256 := by simp [rd, markB, show i < l.length by omega]
    rw [if_pos (by omega), if_pos (by omega), if_pos hrd, w64 (by omega) (by omega), w64 (by omega) (by omega)]
    have e1 : a + (i : Int) + 1 = a + ((i + 1 : Nat) : Int) := by omega
    have e2 : (i : Int) + 1 = ((i + 1 : Nat) : Int) := by omega
    rw [e1, e2]
    exact ih (i + 1) (by omega) k (by omega)
theorem heldByteS_ev (a : Int) (ha : 0 ≤ a) (ha2 : a ≤ 4611686018427387904) (l : List Int) (hl : l.length ≤ 281474976710656) : Ev (fun k => laws_heldByteS.f k (markB a l) a) (a + l.length) := by
  refine ⟨l.length + 1, fun k hk => ?_⟩
  simp only [laws_heldByteS.f]
  have := heldByteS_l a ha ha2 l hl l.length 0 (by omega) k (by omega)
  simpa using this


theorem markDisk0_ev (b : List Int) (hb : b.length ≤ 281474976710656) : Ev (fun k => laws_markDisk.f k b [] 1) (1 + b.length, markB 1 b) := by
  simp only [laws_markDisk.f, laws_markWriteS.f]
  refine Ev.bind (markByteS_ev 1 (by omega) (by omega) b hb) (Ev.bind (a := (1 : Int) + b.length) (Ev.step (fun k => by simp only [laws_markWriteS.l0]; exact if_neg (by simp)) (Ev.now _)) (Ev.now _))
theorem heldDisk0_ev (b : List Int) (hb : b.length ≤ 281474976710656) : Ev (fun k => laws_heldDisk.f k (markB 1 b) [] 1) (1 + b.length) := by
  simp only [laws_heldDisk.f, laws_heldWriteS.f]
  refine Ev.bind (heldByteS_ev 1 (by omega) (by omega) b hb) (Ev.neg (by omega) (Ev.bind (a := (1 : Int) + b.length) (Ev.step (fun k => by simp only [laws_heldWriteS.l0]; exact if_neg (by simp)) (Ev.now _)) (Ev.neg (by omega) (Ev.now _))))

theorem FnExactNewDisk : laws_FnExactNewDisk.Pure := by
  intro n hw
  have hn : -9223372036854775808 ≤ n ∧ n ≤ 9223372036854775807 := by
    simp [Lit.wf, IntKind.min, IntKind.max, IntKind.signed, IntKind.bits] at hw; omega
  have key : ∃ b : List Int, b.length ≤ 100000 ∧ spec_NewDisk.f n = some (b, []) ∧ impl_NewDisk.f n = some (b, []) := by
    by_cases h1 : n < 1
    · exact ⟨[], by simp, by simp only [spec_NewDisk.f]; exact if_pos h1, by simp only [impl_NewDisk.f]; exact if_pos h1⟩
    by_cases h2 : n > 300
    · exact ⟨[], by simp, by simp only [spec_NewDisk.f]; rw [if_neg h1]; exact if_pos h2, by simp only [impl_NewDisk.f]; rw [if_neg h1]; exact if_pos h2⟩
    refine ⟨List.replicate (n * 64).toNat 0, by rw [List.length_replicate]; omega, ?_, ?_⟩
    · simp only [spec_NewDisk.f]
      rw [if_neg h1, if_neg h2, w64 (by omega) (by omega), if_pos (by omega), if_pos (by omega)]
    · simp only [impl_NewDisk.f]
      rw [if_neg h1, if_neg h2, w64 (by omega) (by omega), if_pos (by omega), if_pos (by omega)]
  obtain ⟨b, hb, es, ei⟩ := key
  apply Ev.rounds
  simp only [laws_FnExactNewDisk.f]
  have he := eqDisk_ev b [] (by omega) (by simp) (by simp)
  refine Ev.bindS es (Ev.bindS ei (Ev.bind he (Ev.pos rfl ?_)))
  refine Ev.bind (markDisk0_ev b (by omega)) (Ev.bind (heldDisk0_ev b (by omega)) ?_)
  refine Ev.neg (by omega) (Ev.pos rfl (Ev.bindS ei (Ev.bind he (Ev.pos rfl (Ev.now _)))))

end Go.Proofs.Ytmjfoickgcapmaa.Pure
