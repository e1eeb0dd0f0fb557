/- What is proved: the law FnExactFormatDisk returns true: at every configuration the program's FormatDisk (two writes to a new disk, synced) gives the reference's disk, in memory of its own. Conditions: none but the listed variables' contents, which the card's tie pays. -/
import Derived.Test.YtjoafknckmoojaaDoorGFnExactFormatDiskx12
import Derived.Test.YtjoafknckmoojaaDoorHCrc
import Derived.Lib.SplitLaws
import Derived.Lib.IndexBytes
import Derived.Lib.Bytes
import Derived.Test.YtjoafknckmoojaaDoorHCrc
namespace Go.Proofs.YtjoafknckmoojaaDoor.Pure
open Go.RowKit Go.Proofs.YtjoafknckmoojaaDoor.GFnExactFormatDisk Go.Proofs.YtjoafknckmoojaaDoorW.PrintWords Go.Proofs.YtjoafknckmoojaaDoorW.PrintLast Go.Proofs.YtjoafknckmoojaaDoorW.PrintMore
set_option linter.unusedVariables false
set_option linter.unusedSimpArgs false

theorem w64 {x : Int} (h0 : -9223372036854775808 ≤ x) (h1 : x < 9223372036854775808) : wrap64 x = x := by unfold wrap64; omega
theorem u8_wf {x : Int} (h : (Lit.int .u8 x).wf = true) : 0 ≤ x ∧ x ≤ 255 := by
  simp [Lit.wf, IntKind.min, IntKind.max, IntKind.signed, IntKind.bits] at h
  omega
theorem Ev.pos {α : Type} {c : Prop} [Decidable c] {f g : Nat → Option α} {r : α} (hc : c) (h : Ev f r) : Ev (fun n => if c then f n else g n) r := Ev.congr (fun _ => if_pos hc) h
theorem Ev.neg {α : Type} {c : Prop} [Decidable c] {f g : Nat → Option α} {r : α} (hc : ¬c) (h : Ev g r) : Ev (fun n => if c then f n else g n) r := Ev.congr (fun _ => if_neg hc) h
theorem Ev.ofE {α : Type} {f : Option α} {r : α} (h : f = some r) : Ev (fun _ => f) r := ⟨0, fun _ _ => h⟩
theorem Ev.bindS {α β : Type} {g : Option α} {f : Nat → α → Option β} {a : α} {r : β} (h : g = some a) (k : Ev (fun n => f n a) r) : Ev (fun n => g.bind (f n)) r := Ev.congr (fun _ => by rw [h]; rfl) k
def consHead (b : UInt8) : List (List UInt8) → List (List UInt8)
  | [] => [[b]]
  | h :: t => (b :: h) :: t
def spl : List UInt8 → List (List UInt8)
  | [] => [[]]
  | b :: l => if b = 47 then [] :: spl l else consHead b (spl l)
def consPre (p : List UInt8) : List (List UInt8) → List (List UInt8)
  | [] => [p]
  | h :: t => (p ++ h) :: t
theorem spl_ne (l : List UInt8) : ∃ h t, spl l = h :: t := by
  cases l with
  | nil => exact ⟨[], [], rfl⟩
  | cons b l =>
    unfold spl
    split
    · exact ⟨_, _, rfl⟩
    · cases spl l <;> exact ⟨_, _, rfl⟩
theorem spl_sum (l : List UInt8) : ((spl l).map List.length).sum + (spl l).length = l.length + 1 := by
  induction l with
  | nil => rfl
  | cons b l ih =>
    unfold spl
    split
    · simp; omega
    · obtain ⟨h, t, e⟩ := spl_ne l
      rw [e] at ih ⊢
      simp [consHead] at ih ⊢; omega
theorem splitK_spl (l : List UInt8) : Go.Lib.splitK [47] 0 (Go.Lib.count l [47]) l = spl l := by
  induction l with
  | nil => rw [Go.Lib.count_miss (by rfl)]; rfl
  | cons b l ih =>
    unfold spl
    by_cases hb : b = 47
    · subst hb
      rw [if_pos rfl, Go.Lib.count_cons_eq, Nat.add_comm 1]
      have hi : Go.Lib.index (47 :: l) [47] = 0 := by rw [Go.Lib.index]; simp [List.isPrefixOf]
      unfold Go.Lib.splitK
      rw [hi]
      simp [ih]
    · rw [if_neg hb, Go.Lib.count_cons_ne b 47 l hb]
      have hi : Go.Lib.index (b :: l) [47] = if Go.Lib.index l [47] == -1 then -1 else Go.Lib.index l [47] + 1 := by
        rw [Go.Lib.index]
        have : ([47] : List UInt8).isPrefixOf (b :: l) = false := by simp [List.isPrefixOf, Ne.symm hb]
        rw [this]; simp
      rw [← ih]
      cases hc : Go.Lib.count l [47] with
      | zero => rfl
      | succ k =>
        have hm : ¬ Go.Lib.index l [47] = -1 := fun e => by rw [Go.Lib.count_miss e] at hc; omega
        have hge := Go.Lib.index_ge l [47]
        obtain ⟨j, hj⟩ : ∃ j : Nat, Go.Lib.index l [47] = j := ⟨(Go.Lib.index l [47]).toNat, by omega⟩
        unfold Go.Lib.splitK
        rw [hi, hj]
        have h1 : ¬ (((j : Nat) : Int) == -1) = true := by simp
        rw [if_neg h1, if_neg h1, if_neg (by simp; omega)]
        simp only [consHead]
        have h2 : ((j : Int) + 1).toNat = j + 1 := by omega
        rw [h2, Int.toNat_natCast]
        simp
theorem data_inj {a b : ByteArray} (h : a.data.toList = b.data.toList) : a = b := by
  obtain ⟨⟨l⟩⟩ := a
  obtain ⟨⟨m⟩⟩ := b
  simp at h
  rw [h]
theorem map_inj {xs ys : List ByteArray} (h : xs.map (fun s => s.data.toList) = ys.map (fun s => s.data.toList)) : xs = ys := by
  induction xs generalizing ys with
  | nil => cases ys with
    | nil => rfl
    | cons _ _ => simp at h
  | cons x xs ih => cases ys with
    | nil => simp at h
    | cons y ys =>
      simp only [List.map_cons, List.cons.injEq] at h
      rw [data_inj h.1, ih h.2]
/-- The pieces of a text between slashes. -/
def names (s : ByteArray) : List ByteArray := (spl s.data.toList).map fun l => ⟨l.toArray⟩
theorem names_data (s : ByteArray) : (names s).map (fun s => s.data.toList) = spl s.data.toList := by
  unfold names; rw [List.map_map]; simp [Function.comp_def]
theorem count_le (l : List UInt8) : Go.Lib.count l [47] ≤ l.length := by rw [Go.Lib.count_one]; exact List.count_le_length
theorem implSplit (s : ByteArray) (h : s.size ≤ 1000000) : strings_Split.f s (⟨#[47]⟩ : ByteArray) = some (names s) := by
  unfold strings_Split.f
  have hc : Go.Lib.countB s ⟨#[47]⟩ ≤ s.size := by
    show Go.Lib.count s.data.toList [47] ≤ _
    rw [Go.Lib.size_eq]; exact count_le _
  rw [if_pos ⟨by omega, by decide, by omega⟩]
  congr 1
  apply map_inj
  rw [names_data, Go.Lib.splitB_data]
  exact splitK_spl _
theorem bt_list (s : ByteArray) (i : Nat) (h : i < s.size) : ∃ b : UInt8, s.data.toList[i]? = some b ∧ bt s i = (b.toNat : Int) := by
  have hl : i < s.data.toList.length := by rw [← Go.Lib.size_eq]; exact h
  refine ⟨s.data.toList[i], List.getElem?_eq_getElem hl, ?_⟩
  unfold bt
  rw [dif_pos (by simpa using h)]
  congr 2
theorem specNames_l (s : ByteArray) (hs : s.size ≤ 1048576) (d : Nat) : ∀ (f i : Nat), f ≤ i → i + d = s.size → ∃ q : List ByteArray, q.map (fun s => s.data.toList) = consPre ((s.data.toList.drop f).take (i - f)) (spl (s.data.toList.drop i)) ∧ ∀ acc : List ByteArray, acc.length ≤ i + 1 → Ev (fun k => spec_l3Names.l0 k s acc f i) (acc ++ q) := by
  have hn : s.data.toList.length = s.size := (Go.Lib.size_eq s).symm
  induction d with
  | zero =>
    intro f i hf hi
    have hi' : i = s.size := by omega
    subst hi'
    refine ⟨[s.extract f s.size], ?_, fun acc ha => ?_⟩
    · rw [List.drop_of_length_le (l := s.data.toList) (i := s.size) (by omega)]
      simp [spl, consPre, Go.Lib.extract_data]
    · refine Ev.step (fun k => by simp only [spec_l3Names.l0]; rw [if_pos (by omega), if_pos (by trivial), if_pos (by omega), if_pos (by omega), if_pos (by omega), w64 (by omega) (by omega), Int.toNat_natCast, Int.toNat_natCast]) ?_
      exact Ev.step (fun k => by simp only [spec_l3Names.l0]; exact if_neg (by omega)) (Ev.now _)
  | succ d ih =>
    intro f i hf hi
    obtain ⟨b, hb, eb⟩ := bt_list s i (by omega)
    have hd : s.data.toList.drop i = b :: s.data.toList.drop (i + 1) := by
      rw [List.drop_eq_getElem_cons (by omega)]
      rw [List.getElem?_eq_getElem (by omega)] at hb
      rw [Option.some.inj hb]
    by_cases h47 : b = 47
    · obtain ⟨q, hq, he⟩ := ih (i + 1) (i + 1) (Nat.le_refl _) (by omega)
      refine ⟨s.extract f i :: q, ?_, fun acc ha => ?_⟩
      · rw [List.map_cons, hq, hd, h47]
        obtain ⟨x, t, e⟩ := spl_ne (s.data.toList.drop (i + 1))
        simp [spl, consPre, Go.Lib.extract_data, e]
      · refine Ev.step (fun k => by simp only [spec_l3Names.l0]; rw [if_pos (by omega), if_neg (by omega), if_pos (by omega), if_pos (by omega), eb, if_pos (by rw [h47]; rfl), if_pos (by omega), if_pos (by omega), if_pos (by omega), w64 (by omega) (by omega), Int.toNat_natCast, Int.toNat_natCast]) ?_
        have := he (acc ++ [s.extract f i]) (by simp; omega)
        rw [List.append_assoc] at this
        exact this
    · obtain ⟨q, hq, he⟩ := ih f (i + 1) (by omega) (by omega)
      refine ⟨q, ?_, fun acc ha => ?_⟩
      · rw [hq, hd]
        have h1 : spl (b :: s.data.toList.drop (i + 1)) = consHead b (spl (s.data.toList.drop (i + 1))) := by rw [spl, if_neg h47]
        obtain ⟨x, t, e⟩ := spl_ne (s.data.toList.drop (i + 1))
        rw [h1, e]
        simp only [consHead, consPre]
        congr 1
        rw [show i + 1 - f = (i - f) + 1 by omega, List.take_add_one, List.append_assoc]
        congr 1
        rw [List.getElem?_drop, show f + (i - f) = i by omega, hb]
        rfl
      · have hne : ¬ ((b.toNat : Int) = 47) := fun e => h47 (by
          have : b.toNat = 47 := by omega
          exact UInt8.toNat_inj.mp (by rw [this]; rfl))
        refine Ev.step (fun k => by simp only [spec_l3Names.l0]; rw [if_pos (by omega), if_neg (by omega), if_pos (by omega), if_pos (by omega), eb, if_neg hne, w64 (by omega) (by omega)]) ?_
        exact he acc (by omega)
theorem specNames_ev (s : ByteArray) (h1 : 1 ≤ s.size) (hs : s.size ≤ 1048576) : Ev (fun k => spec_l3Names.f k s) (names (s.extract 1 s.size)) := by
  obtain ⟨q, hq, he⟩ := specNames_l s hs (s.size - 1) 1 1 (Nat.le_refl _) (by omega)
  have e : q = names (s.extract 1 s.size) := by
    apply map_inj
    rw [names_data, hq, Go.Lib.extract_to_end]
    obtain ⟨x, t, e⟩ := spl_ne (s.data.toList.drop 1)
    rw [e]
    simp [consPre]
  rw [← e]
  simp only [spec_l3Names.f]
  exact he [] (by simp)

def letter (b : UInt8) : Bool := (decide (97 ≤ b.toNat) && decide (b.toNat ≤ 122)) || (decide (48 ≤ b.toNat) && decide (b.toNat ≤ 57))
def okName (s : ByteArray) : Bool := s.data.toList.all letter && decide (1 ≤ s.size) && decide (s.size ≤ 16)
theorem drop_cons (s : ByteArray) (i : Nat) (b : UInt8) (h : s.data.toList[i]? = some b) : s.data.toList.drop i = b :: s.data.toList.drop (i + 1) := by
  obtain ⟨hl, e⟩ := List.getElem?_eq_some_iff.1 h
  rw [List.drop_eq_getElem_cons hl, e]
theorem implName_l (s : ByteArray) (hs : s.size ≤ 1048576) (d : Nat) : ∀ (i : Nat), i + d = s.size → Ev (fun k => impl_validName.l0 k s (s.size : Int) i) ((s.data.toList.drop i).all letter && decide (1 ≤ s.size) && decide (s.size ≤ 16)) := by
  induction d with
  | zero =>
    intro i hi
    rw [List.drop_of_length_le (by rw [← Go.Lib.size_eq]; omega)]
    refine Ev.step (fun k => by simp only [impl_validName.l0]; exact if_neg (by omega)) ?_
    by_cases h1 : 1 ≤ s.size
    · refine Ev.pos (by omega) ?_
      rw [decide_eq_true h1]
      simp only [List.all_nil, Bool.true_and]
      refine Ev.congr (fun k => ?_) (Ev.now _)
      congr 1
      by_cases h2 : s.size ≤ 16
      · rw [decide_eq_true h2, decide_eq_true (by omega)]
      · rw [decide_eq_false h2, decide_eq_false (by omega)]
    · rw [decide_eq_false h1]
      simp only [List.all_nil, Bool.true_and, Bool.false_and]
      exact Ev.neg (by omega) (Ev.now _)
  | succ d ih =>
    intro i hi
    obtain ⟨b, hb, eb⟩ := bt_list s i (by omega)
    have hlt := b.toNat_lt
    rw [drop_cons s i b hb, List.all_cons]
    refine Ev.step (fun k => by simp only [impl_validName.l0]; rw [if_pos (by omega), if_pos (by omega), if_pos (by omega), eb, w64 (by omega) (by omega)]) ?_
    by_cases hl : letter b = true
    · rw [hl, Bool.true_and]
      have := ih (i + 1) (by omega)
      simp only [letter, Bool.or_eq_true, Bool.and_eq_true, decide_eq_true_eq] at hl
      by_cases c1 : (b.toNat : Int) < 97
      · exact Ev.pos c1 (Ev.neg (by omega) (Ev.neg (by omega) this))
      · exact Ev.neg c1 (Ev.neg (by omega) this)
    · have hl' : letter b = false := by simpa using hl
      rw [hl']
      simp only [Bool.false_and]
      simp only [letter, Bool.or_eq_true, Bool.and_eq_true, decide_eq_true_eq] at hl
      by_cases c1 : (b.toNat : Int) < 97
      · by_cases c2 : (b.toNat : Int) < 48
        · exact Ev.pos c1 (Ev.pos c2 (Ev.now _))
        · exact Ev.pos c1 (Ev.neg c2 (Ev.pos (by omega) (Ev.now _)))
      · exact Ev.neg c1 (Ev.pos (by omega) (Ev.neg (by omega) (Ev.pos (by omega) (Ev.now _))))
theorem implName_ev (s : ByteArray) (hs : s.size ≤ 1048576) : Ev (fun k => impl_validName.f k s) (okName s) := by
  simp only [impl_validName.f]
  exact implName_l s hs s.size 0 (by omega)
theorem specLetter_e (b : UInt8) : spec_l3Letter.f (b.toNat : Int) = some (letter b) := by
  simp only [spec_l3Letter.f]
  by_cases c1 : (b.toNat : Int) ≥ 97
  · rw [if_pos c1]
    by_cases c2 : (b.toNat : Int) ≤ 122
    · rw [if_pos c2]; congr 1; simp only [letter]; rw [decide_eq_true (by omega), decide_eq_true (by omega)]; rfl
    · rw [if_neg c2, if_pos (by omega)]
      congr 1; simp only [letter]; rw [decide_eq_false (by omega), decide_eq_false (p := b.toNat ≤ 122) (by omega), decide_eq_false (p := b.toNat ≤ 57) (by omega)]; simp
  · rw [if_neg c1]
    by_cases c3 : (b.toNat : Int) ≥ 48
    · rw [if_pos c3]
      congr 1; simp only [letter]; rw [decide_eq_false (p := 97 ≤ b.toNat) (by omega), decide_eq_true (p := 48 ≤ b.toNat) (by omega)]
      by_cases c4 : b.toNat ≤ 57
      · rw [decide_eq_true c4, decide_eq_true (by omega)]; rfl
      · rw [decide_eq_false c4, decide_eq_false (by omega)]; rfl
    · rw [if_neg c3]
      congr 1; simp only [letter]; rw [decide_eq_false (p := 97 ≤ b.toNat) (by omega), decide_eq_false (p := 48 ≤ b.toNat) (by omega)]; rfl
theorem rdN (l : List ByteArray) (i : Nat) (h : i < l.length) : rdOf ByteArray.empty l i = l[i] := by simp [rdOf, h]
theorem specName_1 (l : List ByteArray) (i : Nat) (hi : i < l.length) (hl : l.length ≤ 1048577) (hs : l[i].size ≤ 1048576) (r : Bool) (hk : l[i].data.toList.all letter = true → Ev (fun k => spec_ValidPath.l0 k l ((i + 1 : Nat) : Int)) r) (hf : l[i].data.toList.all letter = false → r = false) (d : Nat) : ∀ (j : Nat), j + d = l[i].size → (l[i].data.toList.take j).all letter = true → Ev (fun k => spec_ValidPath.l1 k l i j) r := by
  induction d with
  | zero =>
    intro j hj ht
    refine Ev.step (fun k => by simp only [spec_ValidPath.l1]; rw [if_pos (by omega), if_pos (by omega), rdN l i hi, if_neg (by omega), w64 (by omega) (by omega)]) ?_
    rw [List.take_of_length_le (by rw [← Go.Lib.size_eq]; omega)] at ht
    exact hk ht
  | succ d ih =>
    intro j hj ht
    obtain ⟨b, hb, eb⟩ := bt_list l[i] j (by omega)
    refine Ev.step (fun k => by simp only [spec_ValidPath.l1]; rw [if_pos (by omega), if_pos (by omega), rdN l i hi, if_pos (by omega), if_pos (by omega), eb, specLetter_e, Option.bind_some, w64 (by omega) (by omega)]) ?_
    by_cases hlb : letter b = true
    · refine Ev.pos hlb (ih (j + 1) (by omega) ?_)
      rw [List.take_add_one, hb, List.all_append, ht]
      simp [hlb]
    · refine Ev.neg hlb ?_
      have : r = false := by
        apply hf
        rw [← List.take_append_drop j l[i].data.toList, drop_cons _ j b hb, List.all_append, List.all_cons]
        simp [hlb]
      rw [this]; exact Ev.now _
theorem specAll_l (l : List ByteArray) (hl : l.length ≤ 1048577) (hs : ∀ x ∈ l, x.size ≤ 1048576) (d : Nat) : ∀ (i : Nat), i + d = l.length → Ev (fun k => spec_ValidPath.l0 k l i) ((l.drop i).all okName) := by
  induction d with
  | zero =>
    intro i hi
    rw [List.drop_of_length_le (by omega)]
    exact Ev.step (fun k => by simp only [spec_ValidPath.l0]; exact if_neg (by omega)) (Ev.now _)
  | succ d ih =>
    intro i hi
    rw [List.drop_eq_getElem_cons (by omega), List.all_cons]
    refine Ev.step (fun k => by simp only [spec_ValidPath.l0]; rw [if_pos (by omega), if_pos (by omega), rdN l i (by omega)]) ?_
    by_cases c1 : l[i].size < 1
    · have : okName l[i] = false := by simp only [okName]; rw [decide_eq_false (by omega)]; simp
      rw [this, Bool.false_and]
      exact Ev.pos (by omega) (Ev.step (fun k => by simp only [spec_ValidPath.j2]; exact if_pos (by trivial)) (Ev.now _))
    refine Ev.neg (by omega) ?_
    by_cases c2 : l[i].size ≤ 16
    · rw [decide_eq_false (by omega)]
      refine Ev.step (fun k => by simp only [spec_ValidPath.j2]; exact if_neg (by simp)) ?_
      refine specName_1 l i (by omega) hl (hs _ (List.getElem_mem _)) _ (fun h => ?_) (fun h => ?_) l[i].size 0 (by omega) (by simp)
      · have : okName l[i] = true := by simp only [okName, h]; rw [decide_eq_true (by omega), decide_eq_true c2]; rfl
        rw [this, Bool.true_and]
        exact ih (i + 1) (by omega)
      · have : okName l[i] = false := by simp only [okName, h]; rfl
        rw [this, Bool.false_and]
    · have : okName l[i] = false := by simp only [okName]; rw [decide_eq_false c2]; simp
      rw [this, Bool.false_and, decide_eq_true (by omega)]
      exact Ev.step (fun k => by simp only [spec_ValidPath.j2]; exact if_pos (by trivial)) (Ev.now _)
theorem implAll_l (l : List ByteArray) (hl : l.length ≤ 1048577) (hs : ∀ x ∈ l, x.size ≤ 1048576) (d : Nat) : ∀ (i : Nat), i + d = l.length → Ev (fun k => impl_ValidPath.l0 k l l (l.length : Int) i) ((l.drop i).all okName && decide (l.length ≤ 6)) := by
  induction d with
  | zero =>
    intro i hi
    rw [List.drop_of_length_le (by omega)]
    refine Ev.step (fun k => by simp only [impl_ValidPath.l0]; exact if_neg (by omega)) ?_
    simp only [List.all_nil, Bool.true_and]
    refine Ev.congr (fun k => ?_) (Ev.now _)
    congr 1
    by_cases h2 : l.length ≤ 6
    · rw [decide_eq_true h2, decide_eq_true (by omega)]
    · rw [decide_eq_false h2, decide_eq_false (by omega)]
  | succ d ih =>
    intro i hi
    rw [List.drop_eq_getElem_cons (by omega), List.all_cons]
    refine Ev.step (fun k => by simp only [impl_ValidPath.l0]; rw [if_pos (by omega), if_pos (by omega), if_pos (by omega), rdN l i (by omega), w64 (by omega) (by omega)]) ?_
    refine Ev.bind (implName_ev l[i] (hs _ (List.getElem_mem _))) ?_
    by_cases c : okName l[i] = true
    · rw [c, Bool.true_and]; exact Ev.pos (by trivial) (ih (i + 1) (by omega))
    · have c' : okName l[i] = false := by simpa using c
      rw [c']
      simp only [Bool.false_and]
      exact Ev.neg (by simp) (Ev.now _)
/-- What both answer. -/
def okPath (s : ByteArray) : Bool := if s.data.toList = [47] then true else decide (2 ≤ s.size) && decide (s.data.toList.head? = some 47) && decide ((names (s.extract 1 s.size)).length ≤ 6) && (names (s.extract 1 s.size)).all okName
theorem names_len (s : ByteArray) : (names s).length ≤ s.size + 1 := by
  have h := spl_sum s.data.toList
  have e := Go.Lib.size_eq s
  have e2 : (names s).length = (spl s.data.toList).length := by simp [names]
  omega
theorem names_size (s : ByteArray) : ∀ x ∈ names s, x.size ≤ s.size := by
  intro x hx
  obtain ⟨l, hl, rfl⟩ := List.mem_map.mp hx
  have h := spl_sum s.data.toList
  have h2 : ∀ (L : List (List UInt8)), l ∈ L → l.length ≤ (L.map List.length).sum := by
    intro L hm
    induction L with
    | nil => cases hm
    | cons a L ih =>
      rcases List.mem_cons.mp hm with rfl | hm
      · simp
      · have := ih hm; simp; omega
  have h3 := h2 _ hl
  obtain ⟨a, t, e⟩ := spl_ne s.data.toList
  have h4 : 1 ≤ (spl s.data.toList).length := by rw [e]; simp
  rw [Go.Lib.size_eq, Go.Lib.size_eq]
  show l.toArray.toList.length ≤ _
  simp at h ⊢; omega
theorem names_bound (s : ByteArray) (h1 : (names s).length ≤ 6) (h2 : (names s).all okName = true) : s.size ≤ 101 := by
  have h := spl_sum s.data.toList
  have h3 : ∀ (L : List (List UInt8)), (L.map fun l => (⟨l.toArray⟩ : ByteArray)).all okName = true → (L.map List.length).sum ≤ 16 * L.length := by
    intro L
    induction L with
    | nil => intro _; simp
    | cons a L ih =>
      intro hL
      simp only [List.map_cons, List.all_cons, Bool.and_eq_true] at hL
      have h5 := ih hL.2
      have h6 : a.length ≤ 16 := by
        have := hL.1
        simp only [okName, Bool.and_eq_true, decide_eq_true_eq] at this
        have := this.2
        rw [Go.Lib.size_eq] at this
        simpa using this
      simp only [List.map_cons, List.sum_cons, List.length_cons]
      omega
  have h7 := h3 _ h2
  have h8 : (spl s.data.toList).length ≤ 6 := by simpa [names] using h1
  rw [Go.Lib.size_eq]
  omega
theorem ext_size1 (s : ByteArray) : (s.extract 1 s.size).size = s.size - 1 := by rw [ByteArray.size_extract]; omega
theorem specPath_ev (s : ByteArray) (hs : s.size ≤ 1048576) : Ev (fun k => spec_ValidPath.f k s) (okPath s) := by
  simp only [spec_ValidPath.f]
  rw [Go.Lib.toList_data]
  unfold okPath
  by_cases h0 : s.data.toList = [47]
  · rw [if_pos h0]; exact Ev.pos h0 (Ev.now _)
  rw [if_neg h0]
  refine Ev.neg h0 ?_
  by_cases h1 : s.size < 2
  · rw [decide_eq_false (by omega)]
    simp only [Bool.false_and]
    exact Ev.pos (by omega) (Ev.step (fun k => by simp only [spec_ValidPath.j0]; exact if_pos (by trivial)) (Ev.now _))
  refine Ev.neg (by omega) (Ev.pos (by omega) ?_)
  obtain ⟨b, hb, eb⟩ := bt_list s 0 (by omega)
  have eb' : bt s 0 = (b.toNat : Int) := eb
  have hh : s.data.toList.head? = some b := by rw [List.head?_eq_getElem?]; exact hb
  rw [eb', hh, decide_eq_true (p := 2 ≤ s.size) (by omega), Bool.true_and]
  by_cases h47 : b = 47
  · subst h47
    rw [decide_eq_true rfl, Bool.true_and]
    refine Ev.step (fun k => by simp only [spec_ValidPath.j0]; exact if_neg (by decide)) ?_
    refine Ev.bind (specNames_ev s (by omega) hs) ?_
    by_cases h6 : (names (s.extract 1 s.size)).length ≤ 6
    · rw [decide_eq_true h6, Bool.true_and]
      refine Ev.neg (by omega) ?_
      have hn := names_len (s.extract 1 s.size)
      rw [ext_size1] at hn
      exact specAll_l _ (by omega) (fun x hx => by have := names_size _ x hx; rw [ext_size1] at this; omega) (names (s.extract 1 s.size)).length 0 (by omega)
    · rw [decide_eq_false h6, Bool.false_and]
      exact Ev.pos (by omega) (Ev.now _)
  · rw [decide_eq_false (by simpa using h47)]
    simp only [Bool.false_and]
    have : ((b.toNat : Int) != 47) = true := by
      have : b.toNat ≠ 47 := fun e => h47 (UInt8.toNat_inj.mp (by rw [e]; rfl))
      simp; omega
    rw [this]
    exact Ev.step (fun k => by simp only [spec_ValidPath.j0]; exact if_pos (by trivial)) (Ev.now _)
theorem cut_e (s : ByteArray) : ∃ p : Bool, p = decide (s.data.toList.head? = some 47) ∧ strings_CutPrefix.f s (⟨#[47]⟩ : ByteArray) = some (if p = true then (s.extract 1 s.size, true) else (s, false)) := by
  refine ⟨_, rfl, ?_⟩
  simp only [strings_CutPrefix.f, stringslite_CutPrefix.f, stringslite_HasPrefix.f]
  have e1 : ((⟨#[47]⟩ : ByteArray).size : Int) = 1 := rfl
  rw [e1]
  by_cases h1 : (s.size : Int) ≥ 1
  · rw [if_pos h1, if_pos (by omega), if_pos (by omega), Option.bind_some]
    have e2 : (s.extract 0 (1 : Int).toNat).toList = s.data.toList.take 1 := by
      rw [Go.Lib.extract_toList]; simp
    have e3 : (⟨#[47]⟩ : ByteArray).toList = [47] := by rw [Go.Lib.toList_data]
    rw [e2, e3]
    have hne : s.data.toList ≠ [] := fun e => by rw [Go.Lib.size_eq, e] at h1; simp at h1
    obtain ⟨b, t, e⟩ := List.exists_cons_of_ne_nil hne
    rw [e]
    by_cases hb : b = 47
    · subst hb; simp
      rw [if_pos (by omega)]; rfl
    · simp [hb]
  · rw [if_neg h1, Option.bind_some]
    have : s.data.toList = [] := by
      have h2 : s.data.toList.length = 0 := by rw [← Go.Lib.size_eq]; omega
      exact List.length_eq_zero_iff.mp h2
    rw [this]; simp
theorem implPath_ev (s : ByteArray) (hs : s.size ≤ 1048576) : Ev (fun k => impl_ValidPath.f k s) (okPath s) := by
  simp only [impl_ValidPath.f]
  rw [Go.Lib.toList_data]
  unfold okPath
  by_cases h0 : s.data.toList = [47]
  · rw [if_pos h0]; exact Ev.pos h0 (Ev.now _)
  rw [if_neg h0]
  refine Ev.neg h0 ?_
  obtain ⟨p, hp, hc⟩ := cut_e s
  refine Ev.bindS hc ?_
  by_cases h47 : s.data.toList.head? = some 47
  · rw [decide_eq_true h47] at hp
    subst hp
    rw [decide_eq_true h47, Bool.and_true]
    have h2 : 2 ≤ s.size := by
      rw [Go.Lib.size_eq]
      cases e : s.data.toList with
      | nil => rw [e] at h47; cases h47
      | cons b t =>
        rw [e] at h47 h0
        cases t with
        | nil => simp at h47; simp [h47] at h0
        | cons _ _ => simp
    rw [decide_eq_true h2, Bool.true_and]
    refine Ev.pos (by trivial) ?_
    by_cases h102 : s.size ≤ 102
    · rw [decide_eq_false (by omega)]
      refine Ev.step (fun k => by simp only [impl_ValidPath.j0]; exact if_neg (by simp)) ?_
      refine Ev.bindS (implSplit (s.extract 1 s.size) (by rw [ext_size1]; omega)) ?_
      have hn := names_len (s.extract 1 s.size)
      rw [ext_size1] at hn
      rw [Bool.and_comm]
      exact implAll_l _ (by omega) (fun x hx => by have := names_size _ x hx; rw [ext_size1] at this; omega) (names (s.extract 1 s.size)).length 0 (by omega)
    · rw [decide_eq_true (by omega)]
      have : (decide ((names (s.extract 1 s.size)).length ≤ 6) && (names (s.extract 1 s.size)).all okName) = false := by
        cases h : (decide ((names (s.extract 1 s.size)).length ≤ 6) && (names (s.extract 1 s.size)).all okName) with
        | false => rfl
        | true =>
          simp only [Bool.and_eq_true, decide_eq_true_eq] at h
          have := names_bound _ h.1 h.2
          rw [ext_size1] at this
          omega
      rw [this]
      exact Ev.step (fun k => by simp only [impl_ValidPath.j0]; exact if_pos (by trivial)) (Ev.now _)
  · rw [decide_eq_false h47] at hp
    subst hp
    rw [decide_eq_false h47]
    simp only [Bool.and_false, Bool.false_and]
    exact Ev.neg (by simp) (Ev.step (fun k => by simp only [impl_ValidPath.j0]; exact if_pos (by trivial)) (Ev.now _))

def inSt (v : Int) : Bool := decide (0 ≤ v) && decide (v ≤ 2147483647)
theorem stat_e (v : Int) : spec_l3Stat.f v = some (inSt v) := by
  simp only [spec_l3Stat.f, inSt]
  by_cases h : v ≥ 0
  · rw [if_pos h, decide_eq_true (p := 0 ≤ v) h, Bool.true_and]
  · rw [if_neg h, decide_eq_false (p := 0 ≤ v) h, Bool.false_and]
theorem inSt_i (v : Int) : inSt v = decide (inStat v) := by
  unfold inSt inStat
  by_cases h1 : 0 ≤ v <;> by_cases h2 : v ≤ 2147483647 <;> simp [h1, h2]
def okNode (x : S92) : Bool := okPath x.f0 && decide (x.f1.size ≤ 64) && inSt x.f2 && inSt x.f3 && inSt x.f4 && inSt x.f5 && inSt x.f6
theorem specNode_ev (x : S92) (h : x.f0.size ≤ 1048576) : Ev (fun k => spec_l3ValidNode.f k x.f0 x.f1 x.f2 x.f3 x.f4 x.f5 x.f6) (okNode x) := by
  simp only [spec_l3ValidNode.f, okNode]
  refine Ev.bind (specPath_ev _ h) ?_
  cases okPath x.f0 with
  | false => simp only [Bool.false_and]; exact Ev.neg (by simp) (Ev.now _)
  | true =>
    refine Ev.pos (by trivial) ?_
    by_cases h1 : x.f1.size ≤ 64
    rotate_left
    · rw [decide_eq_false h1]; simp only [Bool.and_false, Bool.false_and]; exact Ev.neg (by omega) (Ev.now _)
    rw [decide_eq_true h1]
    simp only [Bool.true_and]
    refine Ev.pos (by omega) (Ev.bindS (stat_e _) ?_)
    cases inSt x.f2 with
    | false => simp only [Bool.false_and]; exact Ev.neg (by simp) (Ev.now _)
    | true =>
    simp only [Bool.true_and]
    refine Ev.pos (by trivial) (Ev.bindS (stat_e _) ?_)
    cases inSt x.f3 with
    | false => simp only [Bool.false_and]; exact Ev.neg (by simp) (Ev.now _)
    | true =>
    simp only [Bool.true_and]
    refine Ev.pos (by trivial) (Ev.bindS (stat_e _) ?_)
    cases inSt x.f4 with
    | false => simp only [Bool.false_and]; exact Ev.neg (by simp) (Ev.now _)
    | true =>
    simp only [Bool.true_and]
    refine Ev.pos (by trivial) (Ev.bindS (stat_e _) ?_)
    cases inSt x.f5 with
    | false => simp only [Bool.false_and]; exact Ev.neg (by simp) (Ev.now _)
    | true =>
    simp only [Bool.true_and]
    exact Ev.pos (by trivial) (Ev.bindS (stat_e _) (Ev.now _))
theorem implNode_ev (x : S92) (h : x.f0.size ≤ 1048576) : Ev (fun k => impl_Node_valid.f k x.f0 x.f1 x.f2 x.f3 x.f4 x.f5 x.f6) (okNode x) := by
  simp only [impl_Node_valid.f, okNode]
  by_cases hs : inStat x.f2 ∧ inStat x.f3 ∧ inStat x.f4 ∧ inStat x.f5 ∧ inStat x.f6
  · have ⟨s1, s2, s3, s4, s5⟩ := hs
    rw [inSt_i, inSt_i, inSt_i, inSt_i, inSt_i, decide_eq_true s1, decide_eq_true s2, decide_eq_true s3, decide_eq_true s4, decide_eq_true s5]
    simp only [Bool.and_true]
    refine Ev.pos hs (Ev.bind (implPath_ev _ h) ?_)
    cases okPath x.f0 with
    | false => simp only [Bool.false_and]; exact Ev.neg (by simp) (Ev.now _)
    | true =>
      refine Ev.pos (by trivial) (Ev.congr (fun k => ?_) (Ev.now _))
      congr 1
      by_cases h1 : x.f1.size ≤ 64
      · rw [decide_eq_true h1, decide_eq_true (by omega)]; rfl
      · rw [decide_eq_false h1, decide_eq_false (by omega)]; rfl
  · have : (okPath x.f0 && decide (x.f1.size ≤ 64) && inSt x.f2 && inSt x.f3 && inSt x.f4 && inSt x.f5 && inSt x.f6) = false := by
      cases e : (okPath x.f0 && decide (x.f1.size ≤ 64) && inSt x.f2 && inSt x.f3 && inSt x.f4 && inSt x.f5 && inSt x.f6) with
      | false => rfl
      | true =>
        simp only [Bool.and_eq_true, inSt_i, decide_eq_true_eq] at e
        exact absurd ⟨e.1.1.1.1.2, e.1.1.1.2, e.1.1.2, e.1.2, e.2⟩ hs
    rw [this]
    exact Ev.neg hs (Ev.now _)

theorem rdImp (l : List S92) (i : Nat) (h : i < l.length) : rd_T92 l i = l[i] := by simp [rd_T92, h]
def okAt (l : List S92) (i : Nat) : Bool := if i = 0 then true else Go.Op.bytesLess ((rd_T92 l ((i : Int) - 1)).f0.toList) ((rd_T92 l (i : Int)).f0.toList)
def okFrom (l : List S92) : Nat → Bool
  | 0 => true
  | d + 1 => okNode (rd_T92 l ((l.length - (d + 1) : Nat) : Int)) && okAt l (l.length - (d + 1)) && okFrom l d
theorem specSorted_l (l : List S92) (hl : l.length ≤ 1048576) (hs : ∀ x ∈ l, x.f0.size ≤ 1048576) (d : Nat) : ∀ (i : Nat), i + d = l.length → Ev (fun k => spec_l3Sorted.l0 k l i) (okFrom l d) := by
  induction d with
  | zero => intro i hi; exact Ev.step (fun k => by simp only [spec_l3Sorted.l0]; exact if_neg (by omega)) (Ev.now _)
  | succ d ih =>
    intro i hi
    obtain rfl : i = l.length - (d + 1) := by omega
    have hi2 : l.length - (d + 1) < l.length := by omega
    refine Ev.step (fun k => by simp only [spec_l3Sorted.l0]; rw [if_pos (by omega), if_pos (by omega)]) ?_
    simp only [okFrom]
    have hx : (rd_T92 l ((l.length - (d + 1) : Nat) : Int)).f0.size ≤ 1048576 := by rw [rdImp l _ hi2]; exact hs _ (List.getElem_mem _)
    refine Ev.bind (specNode_ev _ hx) ?_
    cases okNode (rd_T92 l ((l.length - (d + 1) : Nat) : Int)) with
    | false => simp only [Bool.false_and]; exact Ev.neg (by simp) (Ev.now _)
    | true =>
      simp only [Bool.true_and]
      refine Ev.pos (by trivial) ?_
      have hn := ih (l.length - (d + 1) + 1) (by omega)
      by_cases h0 : l.length - (d + 1) = 0
      · have : okAt l (l.length - (d + 1)) = true := by unfold okAt; rw [if_pos h0]
        rw [this, Bool.true_and]
        refine Ev.neg (by omega) (Ev.congr (fun k => ?_) hn)
        rw [w64 (by omega) (by omega)]; rfl
      · refine Ev.pos (by omega) (Ev.congr (fun k => by rw [w64 (by omega) (by omega), w64 (by omega) (by omega)]) ?_)
        refine Ev.pos (by omega) (Ev.pos (by omega) ?_)
        have : okAt l (l.length - (d + 1)) = Go.Op.bytesLess ((rd_T92 l (((l.length - (d + 1) : Nat) : Int) - 1)).f0.toList) ((rd_T92 l ((l.length - (d + 1) : Nat) : Int)).f0.toList) := by unfold okAt; rw [if_neg h0]
        rw [← this]
        cases okAt l (l.length - (d + 1)) with
        | false => simp only [Bool.false_and]; exact Ev.neg (by simp) (Ev.now _)
        | true => rw [Bool.true_and]; exact Ev.pos (by trivial) hn
theorem implSorted_l (l : List S92) (hl : l.length ≤ 1048576) (hs : ∀ x ∈ l, x.f0.size ≤ 1048576) (d : Nat) : ∀ (i : Nat), i + d = l.length → Ev (fun k => impl_nodesOk.l0 k l l (l.length : Int) i) (okFrom l d) := by
  induction d with
  | zero => intro i hi; exact Ev.step (fun k => by simp only [impl_nodesOk.l0]; exact if_neg (by omega)) (Ev.now _)
  | succ d ih =>
    intro i hi
    obtain rfl : i = l.length - (d + 1) := by omega
    have hi2 : l.length - (d + 1) < l.length := by omega
    refine Ev.step (fun k => by simp only [impl_nodesOk.l0]; rw [if_pos (by omega), if_pos (by omega), if_pos (by omega)]) ?_
    simp only [okFrom]
    have hx : (rd_T92 l ((l.length - (d + 1) : Nat) : Int)).f0.size ≤ 1048576 := by rw [rdImp l _ hi2]; exact hs _ (List.getElem_mem _)
    refine Ev.bind (implNode_ev _ hx) ?_
    cases okNode (rd_T92 l ((l.length - (d + 1) : Nat) : Int)) with
    | false => simp only [Bool.false_and]; exact Ev.neg (by simp) (Ev.now _)
    | true =>
      simp only [Bool.true_and]
      refine Ev.pos (by trivial) ?_
      have hn := ih (l.length - (d + 1) + 1) (by omega)
      by_cases h0 : l.length - (d + 1) = 0
      · have : okAt l (l.length - (d + 1)) = true := by unfold okAt; rw [if_pos h0]
        rw [this, Bool.true_and]
        refine Ev.neg (by omega) (Ev.congr (fun k => ?_) hn)
        rw [w64 (by omega) (by omega)]; rfl
      · refine Ev.pos (by omega) (Ev.congr (fun k => by rw [w64 (by omega) (by omega), w64 (by omega) (by omega)]) ?_)
        refine Ev.pos (by omega) (Ev.pos (by omega) ?_)
        have : okAt l (l.length - (d + 1)) = Go.Op.bytesLess ((rd_T92 l (((l.length - (d + 1) : Nat) : Int) - 1)).f0.toList) ((rd_T92 l ((l.length - (d + 1) : Nat) : Int)).f0.toList) := by unfold okAt; rw [if_neg h0]
        rw [← this]
        cases okAt l (l.length - (d + 1)) with
        | false => simp only [Bool.false_and]; exact Ev.neg (by simp) (Ev.now _)
        | true => rw [Bool.true_and]; exact Ev.pos (by trivial) hn
def okTree (l : List S92) : Bool := decide (l.length ≤ 1000) && okFrom l l.length
theorem specTree_ev (l : List S92) (hl : l.length ≤ 1048576) (hs : ∀ x ∈ l, x.f0.size ≤ 1048576) : Ev (fun k => spec_ValidTree.f k l) (okTree l) := by
  simp only [spec_ValidTree.f, okTree]
  by_cases h : l.length ≤ 1000
  · rw [decide_eq_true h, Bool.true_and]
    refine Ev.pos (by omega) (Ev.bind ?_ (Ev.now _))
    simp only [spec_l3Sorted.f]
    exact specSorted_l l hl hs l.length 0 (by omega)
  · rw [decide_eq_false h, Bool.false_and]; exact Ev.neg (by omega) (Ev.now _)
theorem implTree_ev (l : List S92) (hl : l.length ≤ 1048576) (hs : ∀ x ∈ l, x.f0.size ≤ 1048576) : Ev (fun k => impl_ValidTree.f k l) (okTree l) := by
  simp only [impl_ValidTree.f, okTree]
  by_cases h : l.length ≤ 1000
  · rw [decide_eq_true h, Bool.true_and]
    refine Ev.pos (by omega) (Ev.bind ?_ (Ev.now _))
    simp only [impl_nodesOk.f]
    exact implSorted_l l hl hs l.length 0 (by omega)
  · rw [decide_eq_false h, Bool.false_and]; exact Ev.neg (by omega) (Ev.now _)

def beB : Nat → Nat → List Int
  | 0, _ => []
  | n + 1, v => beB n (v / 256) ++ [((v % 256 : Nat) : Int)]
theorem beB_len (n : Nat) : ∀ v, (beB n v).length = n := by
  induction n with
  | zero => intro v; rfl
  | succ n ih => intro v; simp [beB, ih]
theorem beB_head (n : Nat) : ∀ v, beB (n + 1) v = ((v / 256 ^ n % 256 : Nat) : Int) :: beB n v := by
  induction n with
  | zero => intro v; simp [beB]
  | succ n ih =>
    intro v
    rw [show beB (n + 1 + 1) v = beB (n + 1) (v / 256) ++ [((v % 256 : Nat) : Int)] from rfl, ih, show beB (n + 1) v = beB n (v / 256) ++ [((v % 256 : Nat) : Int)] from rfl, Nat.div_div_eq_div_mul, Nat.pow_succ, Nat.mul_comm 256]
    rfl
theorem specBig_ev (n : Nat) : ∀ (v : Nat), v < 9223372036854775808 → n ≤ 1000 → Ev (fun k => spec_l4Big.f k v n) (beB n v) := by
  induction n with
  | zero => intro v _ _; exact Ev.step (fun k => by simp only [spec_l4Big.f]; exact if_pos (by rfl)) (Ev.now _)
  | succ n ih =>
    intro v hv hn
    refine Ev.step (fun k => by simp only [spec_l4Big.f]; rw [if_neg (by omega), show Int.tdiv (v : Int) 256 = ((v / 256 : Nat) : Int) from rfl, show Int.tmod (v : Int) 256 = ((v % 256 : Nat) : Int) from rfl, w64 (by omega) (by omega), w64 (by omega) (by omega), show ((n + 1 : Nat) : Int) - 1 = (n : Int) by omega]) ?_
    refine Ev.bind (ih (v / 256) (by omega) (by omega)) (Ev.pos (by rw [beB_len]; omega) ?_)
    rw [show ((v % 256 : Nat) : Int) % 256 = ((v % 256 : Nat) : Int) by omega]
    exact Ev.now _
theorem implBig_l (v : Nat) (hv : v < 9223372036854775808) (n : Nat) : ∀ (x : List Int), n ≤ 8 → x.length + n ≤ 1000100 → Ev (fun k => impl_big.l0 k x v ((n : Int) - 1)) (x ++ beB n v) := by
  induction n with
  | zero => intro x _ _; simpa [beB] using (Ev.step (fun k => by simp only [impl_big.l0]; exact if_neg (by omega)) (Ev.now x) : Ev (fun k => impl_big.l0 k x v (((0 : Nat) : Int) - 1)) x)
  | succ n ih =>
    intro x hn hx
    have e : (shr .u64 (IntKind.u64.wrap (v : Int)) (8 * (n : Int))) % 256 = ((v / 256 ^ n % 256 : Nat) : Int) := by
      have h1 : IntKind.u64.wrap (v : Int) = (v : Int) := by
        show (v : Int) % 18446744073709551616 = v
        omega
      rw [h1]
      unfold shr
      have h2 : min (8 * (n : Int)).toNat IntKind.u64.bits = 8 * n := by
        show min (8 * (n : Int)).toNat 64 = 8 * n
        omega
      have h3 : (2 : Int) ^ (8 * n) = ((256 ^ n : Nat) : Int) := by rw [show (256 : Nat) = 2 ^ 8 from rfl, ← Nat.pow_mul]; simp
      rw [h2, h3]
      rfl
    refine Ev.step (fun k => by simp only [impl_big.l0]; rw [show ((n + 1 : Nat) : Int) - 1 = (n : Int) by omega, w64 (by omega) (by omega), w64 (by omega) (by omega), e]) ?_
    refine Ev.pos (by omega) (Ev.pos (by omega) (Ev.pos (by omega) ?_))
    rw [beB_head, show x ++ ((v / 256 ^ n % 256 : Nat) : Int) :: beB n v = (x ++ [((v / 256 ^ n % 256 : Nat) : Int)]) ++ beB n v by simp]
    refine ih (x ++ [((v / 256 ^ n % 256 : Nat) : Int)]) (by omega) ?_
    rw [List.length_append, List.length_singleton]; omega
theorem implBig_ev (x : List Int) (n : Nat) (v : Nat) (hv : v < 9223372036854775808) (hn : n ≤ 8) (hx : x.length ≤ 1000000) : Ev (fun k => impl_big.f k x n v) (x ++ beB n v) := by
  simp only [impl_big.f]
  rw [w64 (by omega) (by omega)]
  exact implBig_l v hv n x hn (by omega)

theorem okPath_size (s : ByteArray) (h : okPath s = true) : s.size ≤ 102 := by
  unfold okPath at h
  split at h
  · rename_i hh
    have := congrArg List.length hh
    rw [data_length] at this
    simp at this; omega
  · simp only [Bool.and_eq_true, decide_eq_true_eq] at h
    have := names_bound _ h.1.2 h.2
    rw [ext_size1] at this; omega
structure NodeB (x : S92) : Prop where
  p : x.f0.size ≤ 102
  d : x.f1.size ≤ 64
  a : 0 ≤ x.f2 ∧ x.f2 ≤ 2147483647
  b : 0 ≤ x.f3 ∧ x.f3 ≤ 2147483647
  c : 0 ≤ x.f4 ∧ x.f4 ≤ 2147483647
  e : 0 ≤ x.f5 ∧ x.f5 ≤ 2147483647
  f : 0 ≤ x.f6 ∧ x.f6 ≤ 2147483647
theorem okNode_b (x : S92) (h : okNode x = true) : NodeB x := by
  unfold okNode inSt at h
  simp only [Bool.and_eq_true, decide_eq_true_eq] at h
  obtain ⟨⟨⟨⟨⟨⟨h0, h1⟩, h2⟩, h3⟩, h4⟩, h5⟩, h6⟩ := h
  exact ⟨okPath_size _ h0, h1, h2, h3, h4, h5, h6⟩
def txt (s : ByteArray) : List Int := [(s.size : Int) % 256] ++ bytesOf s
theorem txt_len (s : ByteArray) : (txt s).length = s.size + 1 := by rw [txt, List.length_append, bytesOf_length]; simp; omega
def nums5 (x : S92) : List Int := beB 4 x.f2.toNat ++ beB 4 x.f3.toNat ++ beB 4 x.f4.toNat ++ beB 4 x.f5.toNat ++ beB 4 x.f6.toNat
theorem nums5_len (x : S92) : (nums5 x).length = 20 := by simp [nums5, beB_len]
def img (x : S92) : List Int := txt x.f0 ++ txt x.f1 ++ nums5 x
theorem img_len (x : S92) (h : NodeB x) : (img x).length ≤ 188 := by
  have := h.p; have := h.d
  rw [img, List.length_append, List.length_append, txt_len, txt_len, nums5_len]; omega
theorem specText_e (s : ByteArray) (h : s.size ≤ 1048576) : spec_l4Text.f s = some (txt s) := by
  simp only [spec_l4Text.f, Option.bind_some]
  rw [if_pos (by simp; omega)]; rfl
theorem specNodeI_ev (x : S92) (h : NodeB x) : Ev (fun k => spec_l4Node.f k x.f0 x.f1 x.f2 x.f3 x.f4 x.f5 x.f6) (img x) := by
  obtain ⟨hp, hd, ha, hb, hc, he, hf⟩ := h
  have big : ∀ v : Int, 0 ≤ v ∧ v ≤ 2147483647 → Ev (fun k => spec_l4Big.f k v 4) (beB 4 v.toNat) := fun v hv => by
    have := specBig_ev 4 v.toNat (by omega) (by omega)
    rwa [show ((v.toNat : Nat) : Int) = v by omega] at this
  simp only [spec_l4Node.f, Option.bind_some]
  have t0 := txt_len x.f0
  have t1 := txt_len x.f1
  have l4 : ∀ v, (beB 4 v).length = 4 := beB_len 4
  refine Ev.bindS (specText_e _ (by omega)) (Ev.bindS (specText_e _ (by omega)) (Ev.pos (by omega) ?_))
  refine Ev.bind (big _ ha) (Ev.pos (by simp only [List.length_append, l4]; omega) ?_)
  refine Ev.bind (big _ hb) (Ev.pos (by simp only [List.length_append, l4]; omega) ?_)
  refine Ev.bind (big _ hc) (Ev.pos (by simp only [List.length_append, l4]; omega) ?_)
  refine Ev.bind (big _ he) (Ev.pos (by simp only [List.length_append, l4]; omega) ?_)
  refine Ev.bind (big _ hf) (Ev.pos (by simp only [List.length_append, l4]; omega) ?_)
  have e : img x = txt x.f0 ++ txt x.f1 ++ beB 4 x.f2.toNat ++ beB 4 x.f3.toNat ++ beB 4 x.f4.toNat ++ beB 4 x.f5.toNat ++ beB 4 x.f6.toNat := by simp [img, nums5, List.append_assoc]
  rw [e]; exact Ev.now _
theorem five0 (a b c d e : Int) : YtjoafknckmoojaaDoorH.five a b c d e 0 = a ∧ YtjoafknckmoojaaDoorH.five a b c d e 1 = b ∧ YtjoafknckmoojaaDoorH.five a b c d e 2 = c ∧ YtjoafknckmoojaaDoorH.five a b c d e 3 = d ∧ YtjoafknckmoojaaDoorH.five a b c d e 4 = e := ⟨rfl, rfl, rfl, rfl, rfl⟩
theorem putNode_ev (x : S92) (h : NodeB x) (o : List Int) (ho : o.length ≤ 900000) : Ev (fun k => impl_nodeImage_put.f k x.f0 x.f1 x.f2 x.f3 x.f4 x.f5 x.f6 o) (o ++ img x) := by
  obtain ⟨hp, hd, ha, hb, hc, he, hf⟩ := h
  have big : ∀ (v : Int) (y : List Int), 0 ≤ v ∧ v ≤ 2147483647 → y.length ≤ 1000000 → Ev (fun k => impl_big.f k y 4 v) (y ++ beB 4 v.toNat) := fun v y hv hy => by
    have := implBig_ev y 4 v.toNat (by omega) (by omega) hy
    rwa [show ((v.toNat : Nat) : Int) = v by omega] at this
  simp only [impl_nodeImage_put.f, Option.bind_some]
  have b0 := bytesOf_length x.f0
  have b1 := bytesOf_length x.f1
  have l4 : ∀ v, (beB 4 v).length = 4 := beB_len 4
  have s1 : ∀ q : Int, [q].length = 1 := fun _ => rfl
  have f := five0 x.f2 x.f3 x.f4 x.f5 x.f6
  refine Ev.pos (by omega) (Ev.pos (by simp only [List.length_append, s1]; omega) (Ev.pos (by simp only [List.length_append, s1]; omega) (Ev.pos (by simp only [List.length_append, s1]; omega) ?_)))
  have hL : (o ++ [(x.f0.size : Int) % 256] ++ bytesOf x.f0 ++ [(x.f1.size : Int) % 256] ++ bytesOf x.f1).length ≤ 999000 := by simp only [List.length_append, s1]; omega
  have hE : o ++ img x = (o ++ [(x.f0.size : Int) % 256] ++ bytesOf x.f0 ++ [(x.f1.size : Int) % 256] ++ bytesOf x.f1) ++ beB 4 x.f2.toNat ++ beB 4 x.f3.toNat ++ beB 4 x.f4.toNat ++ beB 4 x.f5.toNat ++ beB 4 x.f6.toNat := by simp [img, txt, nums5, List.append_assoc]
  rw [hE]
  generalize o ++ [(x.f0.size : Int) % 256] ++ bytesOf x.f0 ++ [(x.f1.size : Int) % 256] ++ bytesOf x.f1 = y at hL ⊢
  refine Ev.step (fun k => by simp only [impl_nodeImage_put.l0]; rw [if_pos (by omega), if_pos (by omega), f.1, show wrap64 ((0 : Int) + 1) = 1 by unfold wrap64; omega]) (Ev.bind (big _ _ ha (by omega)) ?_)
  refine Ev.step (fun k => by simp only [impl_nodeImage_put.l0]; rw [if_pos (by omega), if_pos (by omega), f.2.1, show wrap64 ((1 : Int) + 1) = 2 by unfold wrap64; omega]) (Ev.bind (big _ _ hb (by simp only [List.length_append, l4]; omega)) ?_)
  refine Ev.step (fun k => by simp only [impl_nodeImage_put.l0]; rw [if_pos (by omega), if_pos (by omega), f.2.2.1, show wrap64 ((2 : Int) + 1) = 3 by unfold wrap64; omega]) (Ev.bind (big _ _ hc (by simp only [List.length_append, l4]; omega)) ?_)
  refine Ev.step (fun k => by simp only [impl_nodeImage_put.l0]; rw [if_pos (by omega), if_pos (by omega), f.2.2.2.1, show wrap64 ((3 : Int) + 1) = 4 by unfold wrap64; omega]) (Ev.bind (big _ _ he (by simp only [List.length_append, l4]; omega)) ?_)
  refine Ev.step (fun k => by simp only [impl_nodeImage_put.l0]; rw [if_pos (by omega), if_pos (by omega), f.2.2.2.2, show wrap64 ((4 : Int) + 1) = 5 by unfold wrap64; omega]) (Ev.bind (big _ _ hf (by simp only [List.length_append, l4]; omega)) ?_)
  exact Ev.step (fun k => by simp only [impl_nodeImage_put.l0]; exact if_neg (by omega)) (Ev.now _)
theorem okFrom_at (l : List S92) (d : Nat) : ∀ (i : Nat), i + d = l.length → okFrom l d = true → ∀ j, i ≤ j → j < l.length → NodeB (rd_T92 l j) := by
  induction d with
  | zero => intro i hi _ j h1 h2; omega
  | succ d ih =>
    intro i hi h j h1 h2
    simp only [okFrom, Bool.and_eq_true] at h
    obtain rfl : i = l.length - (d + 1) := by omega
    by_cases hj : j = l.length - (d + 1)
    · subst hj; exact okNode_b _ h.1.1
    · exact ih (l.length - (d + 1) + 1) (by omega) h.2 j (by omega) h2
def imgs (l : List S92) (i : Nat) : List Int := ((List.range i).map fun j => img (rd_T92 l (j : Nat))).flatten
theorem imgs_succ (l : List S92) (i : Nat) : imgs l (i + 1) = imgs l i ++ img (rd_T92 l (i : Nat)) := by simp [imgs, List.range_succ]
theorem imgs_len (l : List S92) (h : ∀ j, j < l.length → NodeB (rd_T92 l j)) (i : Nat) (hi : i ≤ l.length) : (imgs l i).length ≤ 188 * i := by
  induction i with
  | zero => simp [imgs]
  | succ i ih => rw [imgs_succ, List.length_append]; have := ih (by omega); have := img_len _ (h i (by omega)); omega
theorem specImgs_l (l : List S92) (hl : l.length ≤ 1000) (h : ∀ j, j < l.length → NodeB (rd_T92 l j)) (d : Nat) : ∀ (i : Nat), i + d = l.length → Ev (fun k => spec_l4Nodes.l0 k l (imgs l i) i) (imgs l l.length) := by
  induction d with
  | zero => intro i hi; obtain rfl : i = l.length := by omega
            exact Ev.step (fun k => by simp only [spec_l4Nodes.l0]; exact if_neg (by omega)) (Ev.now _)
  | succ d ih =>
    intro i hi
    have hL := imgs_len l h i (by omega)
    have hI := img_len _ (h i (by omega))
    refine Ev.step (fun k => by simp only [spec_l4Nodes.l0]; rw [if_pos (by omega), if_pos (by omega), w64 (by omega) (by omega)]) ?_
    refine Ev.bind (specNodeI_ev _ (h i (by omega))) (Ev.pos (by omega) ?_)
    rw [← imgs_succ]
    exact ih (i + 1) (by omega)
theorem implImgs_l (l : List S92) (hl : l.length ≤ 1000) (h : ∀ j, j < l.length → NodeB (rd_T92 l j)) (d : Nat) : ∀ (i : Nat), i + d = l.length → Ev (fun k => impl_EncodeTree.l0 k (imgs l i) l (l.length : Int) i) (imgs l l.length) := by
  induction d with
  | zero => intro i hi; obtain rfl : i = l.length := by omega
            exact Ev.step (fun k => by simp only [impl_EncodeTree.l0]; exact if_neg (by omega)) (Ev.now _)
  | succ d ih =>
    intro i hi
    have hL := imgs_len l h i (by omega)
    refine Ev.step (fun k => by simp only [impl_EncodeTree.l0]; rw [if_pos (by omega), if_pos (by omega), if_pos (by omega), w64 (by omega) (by omega)]) ?_
    refine Ev.bind (putNode_ev _ (h i (by omega)) _ (by omega)) ?_
    rw [← imgs_succ]
    exact ih (i + 1) (by omega)
def encTree (l : List S92) : List Int := if okTree l = true then imgs l l.length else []
theorem okTree_b (l : List S92) (h : okTree l = true) : l.length ≤ 1000 ∧ ∀ j, j < l.length → NodeB (rd_T92 l j) := by
  unfold okTree at h
  simp only [Bool.and_eq_true, decide_eq_true_eq] at h
  exact ⟨h.1, fun j hj => okFrom_at l l.length 0 (by omega) h.2 j (by omega) hj⟩
theorem encTree_len (l : List S92) : (encTree l).length ≤ 188000 := by
  unfold encTree; split
  · rename_i h; have ⟨h1, h2⟩ := okTree_b l h; have := imgs_len l h2 l.length (by omega); omega
  · simp
theorem specEncTree_ev (l : List S92) (hl : l.length ≤ 1048576) (hs : ∀ x ∈ l, x.f0.size ≤ 1048576) : Ev (fun k => spec_EncodeTree.f k l) (encTree l) := by
  simp only [spec_EncodeTree.f, encTree]
  refine Ev.bind (specTree_ev l hl hs) ?_
  by_cases h : okTree l = true
  · rw [h]; have ⟨h1, h2⟩ := okTree_b l h
    refine Ev.pos rfl (Ev.bind ?_ (Ev.now _))
    simp only [spec_l4Nodes.f]
    exact specImgs_l l h1 h2 l.length 0 (by omega)
  · rw [if_neg h]; exact Ev.neg h (Ev.now _)
theorem implEncTree_ev (l : List S92) (hl : l.length ≤ 1048576) (hs : ∀ x ∈ l, x.f0.size ≤ 1048576) : Ev (fun k => impl_EncodeTree.f k l) (encTree l) := by
  simp only [impl_EncodeTree.f, encTree]
  refine Ev.bind (implTree_ev l hl hs) ?_
  by_cases h : okTree l = true
  · rw [h]; have ⟨h1, h2⟩ := okTree_b l h
    refine Ev.pos rfl ?_
    exact implImgs_l l h1 h2 l.length 0 (by omega)
  · rw [if_neg h]; exact Ev.neg h (Ev.now _)
open Go.Proofs.YtjoafknckmoojaaDoorH (nibAt tabNIB)
def stC (r c : Nat) : Nat := if (r + c) % 2 = 1 then (r / 2) ^^^ 2197175160 else r / 2
def snC (r n : Nat) : Nat := stC (stC (stC (stC r n) (n / 2)) (n / 4)) (n / 8)
def nibN (i : Nat) : Nat := [0x00000000, 0x105ec76f, 0x20bd8ede, 0x30e349b1, 0x417b1dbc, 0x5125dad3, 0x61c69362, 0x7198540d, 0x82f63b78, 0x92a8fc17, 0xa24bb5a6, 0xb21572c9, 0xc38d26c4, 0xd3d3e1ab, 0xe330a81a, 0xf36e6f75].getD i 0
def eC (b : Nat) : Nat := if b % 2 = 1 then 2197175160 else 0
theorem stC_e (r c : Nat) : stC r c = r / 2 ^^^ eC (r + c) := by
  unfold stC eC; split <;> simp
theorem eC_2 (b : Nat) : eC b % 2 = 0 ∧ eC b / 2 % 2 = 0 ∧ eC b / 4 % 2 = 0 := by unfold eC; split <;> simp
theorem eC_par {a b : Nat} (h : a % 2 = b % 2) : eC a = eC b := by unfold eC; rw [h]
theorem xor2 (a b : Nat) : (a ^^^ b) / 2 = a / 2 ^^^ b / 2 := Nat.xor_div_two
theorem xorm (a b : Nat) : (a ^^^ b) % 2 = (a + b) % 2 := by
  have := @Nat.xor_mod_two_eq_one a b
  omega
theorem snC_e (r n : Nat) : snC r n = r / 16 ^^^ (eC (r + n) / 8 ^^^ eC (r / 2 + n / 2) / 4 ^^^ eC (r / 4 + n / 4) / 2 ^^^ eC (r / 8 + n / 8)) := by
  unfold snC
  obtain ⟨a1, a2, a3⟩ := eC_2 (r + n)
  obtain ⟨b1, b2, b3⟩ := eC_2 (r / 2 + n / 2)
  obtain ⟨c1, c2, c3⟩ := eC_2 (r / 4 + n / 4)
  have h1 : stC r n = r / 2 ^^^ eC (r + n) := stC_e r n
  have h2 : stC (stC r n) (n / 2) = r / 4 ^^^ eC (r + n) / 2 ^^^ eC (r / 2 + n / 2) := by
    rw [h1, stC_e, xor2, Nat.div_div_eq_div_mul]
    congr 1
    refine eC_par ?_
    have := xorm (r / 2) (eC (r + n))
    omega
  have h3 : stC (stC (stC r n) (n / 2)) (n / 4) = r / 8 ^^^ eC (r + n) / 4 ^^^ eC (r / 2 + n / 2) / 2 ^^^ eC (r / 4 + n / 4) := by
    rw [h2, stC_e, xor2, xor2, Nat.div_div_eq_div_mul, Nat.div_div_eq_div_mul]
    congr 1
    refine eC_par ?_
    have e1 := xorm (r / 4 ^^^ eC (r + n) / 2) (eC (r / 2 + n / 2))
    have e2 := xorm (r / 4) (eC (r + n) / 2)
    omega
  rw [h3, stC_e, xor2, xor2, xor2, Nat.div_div_eq_div_mul, Nat.div_div_eq_div_mul, Nat.div_div_eq_div_mul]
  have : eC ((r / 8 ^^^ eC (r + n) / 4 ^^^ eC (r / 2 + n / 2) / 2 ^^^ eC (r / 4 + n / 4)) + n / 8) = eC (r / 8 + n / 8) := by
    refine eC_par ?_
    have e1 := xorm (r / 8 ^^^ eC (r + n) / 4 ^^^ eC (r / 2 + n / 2) / 2) (eC (r / 4 + n / 4))
    have e2 := xorm (r / 8 ^^^ eC (r + n) / 4) (eC (r / 2 + n / 2) / 2)
    have e3 := xorm (r / 8) (eC (r + n) / 4)
    omega
  rw [this]
  simp only [Nat.xor_assoc]
theorem snC_nib (r n : Nat) : snC r n = nibN ((r ^^^ n) % 16) ^^^ (r / 16) := by
  rw [snC_e, Nat.xor_comm]
  congr 1
  have h0 : eC (r + n) = eC ((r ^^^ n) % 16) := eC_par (by have := xorm r n; omega)
  have h1 : eC (r / 2 + n / 2) = eC ((r ^^^ n) % 16 / 2) := eC_par (by have := xorm (r / 2) (n / 2); have := xor2 r n; omega)
  have h2 : eC (r / 4 + n / 4) = eC ((r ^^^ n) % 16 / 4) := eC_par (by have := xorm (r / 2 / 2) (n / 2 / 2); have := xor2 r n; have := xor2 (r / 2) (n / 2); omega)
  have h3 : eC (r / 8 + n / 8) = eC ((r ^^^ n) % 16 / 8) := eC_par (by have := xorm (r / 2 / 2 / 2) (n / 2 / 2 / 2); have := xor2 r n; have := xor2 (r / 2) (n / 2); have := xor2 (r / 2 / 2) (n / 2 / 2); omega)
  rw [h0, h1, h2, h3]
  have hb : ∀ y, y < 16 → eC y / 8 ^^^ eC (y / 2) / 4 ^^^ eC (y / 4) / 2 ^^^ eC (y / 8) = nibN y := by decide
  exact hb _ (Nat.mod_lt _ (by decide))
theorem stC_lt {r c : Nat} (h : r < 4294967296) : stC r c < 4294967296 := by
  rw [stC_e]
  have : eC (r + c) < 2 ^ 32 := by unfold eC; split <;> decide
  exact Nat.xor_lt_two_pow (n := 32) (by omega) this
theorem snC_lt {r n : Nat} (h : r < 4294967296) : snC r n < 4294967296 := stC_lt (stC_lt (stC_lt (stC_lt h)))
def byteC (r b : Nat) : Nat := snC (snC r b) (b / 16)
theorem byteC_lt {r b : Nat} (h : r < 4294967296) : byteC r b < 4294967296 := snC_lt (snC_lt h)
theorem bxor64 (a b : Nat) (ha : a < 4294967296) (hb : b < 4294967296) : Go.bits .xor .i64 a b = ((a ^^^ b : Nat) : Int) := by
  have hx : a ^^^ b < 4294967296 := Nat.xor_lt_two_pow (n := 32) ha hb
  show IntKind.i64.wrap ((BitVec.ofInt 64 a ^^^ BitVec.ofInt 64 b).toNat : Int) = _
  rw [BitVec.toNat_xor, BitVec.ofInt_natCast, BitVec.ofInt_natCast, BitVec.toNat_ofNat, BitVec.toNat_ofNat, Nat.mod_eq_of_lt (by omega), Nat.mod_eq_of_lt (by omega), IntKind.wrap_i64]
  omega
theorem bxor32 (a b : Nat) (ha : a < 4294967296) (hb : b < 4294967296) : Go.bits .xor .u32 a b = ((a ^^^ b : Nat) : Int) := by
  have hx : a ^^^ b < 4294967296 := Nat.xor_lt_two_pow (n := 32) ha hb
  show IntKind.u32.wrap ((BitVec.ofInt 32 a ^^^ BitVec.ofInt 32 b).toNat : Int) = _
  rw [BitVec.toNat_xor, BitVec.ofInt_natCast, BitVec.ofInt_natCast, BitVec.toNat_ofNat, BitVec.toNat_ofNat, Nat.mod_eq_of_lt (by omega), Nat.mod_eq_of_lt (by omega), IntKind.wrap_u32]
  omega
theorem bnot32 (a : Nat) (ha : a < 4294967296) : Go.bits .xor .u32 4294967295 a = 4294967295 - (a : Int) := by
  show IntKind.u32.wrap ((BitVec.ofInt 32 4294967295 ^^^ BitVec.ofInt 32 a).toNat : Int) = _
  rw [show BitVec.ofInt 32 4294967295 = BitVec.allOnes 32 from rfl, BitVec.allOnes_xor, BitVec.toNat_not, BitVec.ofInt_natCast, BitVec.toNat_ofNat, Nat.mod_eq_of_lt (by omega), IntKind.wrap_u32]
  omega
theorem band15 (a : Nat) (ha : a < 4294967296) : Go.bits .and .u32 a 15 = ((a % 16 : Nat) : Int) := by
  rw [Go.Proofs.YtjoafknckmoojaaDoorH.and15_nat, BitVec.ofInt_natCast, BitVec.toNat_ofNat, Nat.mod_eq_of_lt (by omega)]
  rw [show (15 : Nat) = 2 ^ 4 - 1 from rfl, Nat.and_two_pow_sub_one_eq_mod]
theorem nibAt_n (i : Nat) (h : i < 16) : nibAt (i : Int) = (nibN i : Int) := by
  have : ∀ i, i < 16 → tabNIB.getD i 0 = (nibN i : Int) := by decide
  show tabNIB.getD (i : Int).toNat 0 = _
  rw [Int.toNat_natCast]
  exact this i h
theorem implNib (r n : Nat) (hr : r < 4294967296) (hn : n < 256) : Go.bits .xor .u32 (nibAt (Go.bits .and .u32 (Go.bits .xor .u32 r ((n : Int) % 4294967296)) 15)) ((r : Int) / 16) = (snC r n : Int) := by
  rw [show (n : Int) % 4294967296 = (n : Int) by omega, bxor32 r n hr (by omega), band15 _ (Nat.xor_lt_two_pow (n := 32) hr (by omega)), nibAt_n _ (Nat.mod_lt _ (by decide)), show (r : Int) / 16 = ((r / 16 : Nat) : Int) from rfl, bxor32 _ _ ?_ (by omega), snC_nib]
  have : ∀ i, i < 16 → nibN i < 4294967296 := by decide
  exact this _ (Nat.mod_lt _ (by decide))
def crcN (l : List Nat) : Nat := l.foldl byteC 4294967295
def OkL (l : List Int) : Prop := ∀ x ∈ l, 0 ≤ x ∧ x ≤ 255
def natL (l : List Int) : List Nat := l.map Int.toNat
theorem fold_lt (l : List Nat) : ∀ r, r < 4294967296 → l.foldl byteC r < 4294967296 := by
  induction l with
  | nil => intro r h; exact h
  | cons b l ih => intro r h; exact ih _ (byteC_lt h)
theorem rd_nat {l : List Int} (ok : OkL l) (i : Nat) (hi : i < l.length) : ∃ b : Nat, b < 256 ∧ rd l i = (b : Int) ∧ (natL l).drop i = b :: (natL l).drop (i + 1) := by
  have h := ok _ (List.getElem_mem hi)
  refine ⟨l[i].toNat, by omega, by simp [rd, hi]; omega, ?_⟩
  rw [natL, List.drop_eq_getElem_cons (by simpa using hi)]
  simp
theorem implCrc_l {l : List Int} (ok : OkL l) (hl : l.length ≤ 281474976710656) (d : Nat) : ∀ (i r : Nat), i + d = l.length → r < 4294967296 → Ev (fun k => impl_Crc.l0 k r l (l.length : Int) i) (4294967295 - ((List.foldl byteC r ((natL l).drop i) : Nat) : Int)) := by
  induction d with
  | zero =>
    intro i r hi hr
    refine Ev.step (fun k => by simp only [impl_Crc.l0]; rw [if_neg (by omega), bnot32 r hr, w64 (by omega) (by omega)]) ?_
    rw [List.drop_of_length_le (by simp [natL]; omega)]; exact Ev.now _
  | succ d ih =>
    intro i r hi hr
    obtain ⟨b, hb, e, e2⟩ := rd_nat ok i (by omega)
    refine Ev.step (fun k => by simp only [impl_Crc.l0]; rw [if_pos (by omega), if_pos (by omega), if_pos (by omega), e, implNib r b hr hb, show (b : Int) / 16 = ((b / 16 : Nat) : Int) from rfl, implNib (snC r b) (b / 16) (snC_lt hr) (by omega), w64 (by omega) (by omega)]) ?_
    rw [e2, List.foldl_cons]
    exact ih (i + 1) _ (by omega) (byteC_lt hr)
theorem implCrc_ev {l : List Int} (ok : OkL l) (hl : l.length ≤ 281474976710656) : Ev (fun k => impl_Crc.f k l) (4294967295 - (crcN (natL l) : Int)) := by
  simp only [impl_Crc.f]
  exact implCrc_l ok hl l.length 0 4294967295 (by omega) (by omega)
theorem specCrc_1 {l : List Int} (ok : OkL l) (hl : l.length ≤ 281474976710656) (i : Nat) (hi : i < l.length) (b : Nat) (hb : b < 256) (e : rd l i = (b : Int)) (r j : Nat) (hr : r < 4294967296) (hj : j < 8) (k : Nat) : spec_Crc.l1 (k + 1) l r i j = spec_Crc.l1 k l (stC r (b / 2 ^ j) : Nat) i ((j + 1 : Nat) : Int) := by
  have e1 : IntKind.u64.wrap (j : Int) = (j : Int) := by show (j : Int) % 18446744073709551616 = j; omega
  have e2 : shr .u8 (b : Int) (j : Int) = ((b / 2 ^ j : Nat) : Int) := by
    unfold shr
    rw [show min (j : Int).toNat IntKind.u8.bits = j from by show min (j : Int).toNat 8 = j; omega]
    simp
  have hbj : b / 2 ^ j < 256 := Nat.lt_of_le_of_lt (Nat.div_le_self _ _) hb
  generalize b / 2 ^ j = q at e2 hbj ⊢
  simp only [spec_Crc.l1]
  rw [if_pos (by omega), if_pos (by omega), if_pos (by omega), e1, if_pos (by omega), e, e2, w64 (x := (q : Int)) (by omega) (by omega), w64 (x := (r : Int) + (q : Int)) (by omega) (by omega)]
  rw [show Int.tdiv (r : Int) 2 = ((r / 2 : Nat) : Int) from rfl, w64 (x := ((r / 2 : Nat) : Int)) (by omega) (by omega), show (2197175160 : Int) = ((2197175160 : Nat) : Int) from rfl, bxor64 _ _ (by omega) (by omega), w64 (x := (j : Int) + 1) (by omega) (by omega)]
  rw [show Int.tmod ((r : Int) + (q : Int)) 2 = (((r + q) % 2 : Nat) : Int) from rfl]
  unfold stC
  by_cases h : (r + q) % 2 = 1
  · rw [if_pos (by omega), if_pos h]; rfl
  · rw [if_neg (by omega), if_neg h]; rfl
theorem specCrc_b {l : List Int} (ok : OkL l) (hl : l.length ≤ 281474976710656) (i : Nat) (hi : i < l.length) (b : Nat) (hb : b < 256) (e : rd l i = (b : Int)) (r : Nat) (hr : r < 4294967296) (k : Nat) : spec_Crc.l1 (k + 9) l r i 0 = spec_Crc.l0 k l (byteC r b : Nat) ((i + 1 : Nat) : Int) := by
  have s := fun (r j : Nat) (hr : r < 4294967296) (hj : j < 8) (k : Nat) => specCrc_1 ok hl i hi b hb e r j hr hj k
  have h1 := stC_lt (c := b / 2 ^ 0) hr
  have h2 := stC_lt (c := b / 2 ^ 1) h1
  have h3 := stC_lt (c := b / 2 ^ 2) h2
  have h4 := stC_lt (c := b / 2 ^ 3) h3
  have h5 := stC_lt (c := b / 2 ^ 4) h4
  have h6 := stC_lt (c := b / 2 ^ 5) h5
  have h7 := stC_lt (c := b / 2 ^ 6) h6
  have := s r 0 hr (by omega) (k + 8)
  rw [show (((0 : Nat) : Int)) = 0 from rfl] at this
  rw [this, s _ 1 h1 (by omega) (k + 7), s _ 2 h2 (by omega) (k + 6), s _ 3 h3 (by omega) (k + 5), s _ 4 h4 (by omega) (k + 4), s _ 5 h5 (by omega) (k + 3), s _ 6 h6 (by omega) (k + 2), s _ 7 h7 (by omega) (k + 1)]
  have eb : byteC r b = stC (stC (stC (stC (stC (stC (stC (stC r (b / 2 ^ 0)) (b / 2 ^ 1)) (b / 2 ^ 2)) (b / 2 ^ 3)) (b / 2 ^ 4)) (b / 2 ^ 5)) (b / 2 ^ 6)) (b / 2 ^ 7) := by
    unfold byteC snC
    simp [Nat.div_div_eq_div_mul]
  rw [eb]
  simp only [spec_Crc.l1]
  rw [if_neg (by omega), w64 (by omega) (by omega)]
  rfl
theorem specCrc_l {l : List Int} (ok : OkL l) (hl : l.length ≤ 281474976710656) (d : Nat) : ∀ (i r : Nat), i + d = l.length → r < 4294967296 → Ev (fun k => spec_Crc.l0 k l r i) (4294967295 - ((List.foldl byteC r ((natL l).drop i) : Nat) : Int)) := by
  induction d with
  | zero =>
    intro i r hi hr
    refine Ev.step (fun k => by simp only [spec_Crc.l0]; rw [if_neg (by omega), w64 (by omega) (by omega)]) ?_
    rw [List.drop_of_length_le (by simp [natL]; omega)]; exact Ev.now _
  | succ d ih =>
    intro i r hi hr
    obtain ⟨b, hb, e, e2⟩ := rd_nat ok i (by omega)
    rw [e2, List.foldl_cons]
    obtain ⟨K, h⟩ := ih (i + 1) _ (by omega) (byteC_lt (b := b) hr)
    refine ⟨K + 10, fun k hk => ?_⟩
    obtain ⟨m, rfl⟩ : ∃ m, k = m + 10 := ⟨k - 10, by omega⟩
    have := h m (by omega)
    rw [← this]
    show spec_Crc.l0 (m + 9 + 1) l r i = _
    simp only [spec_Crc.l0]
    rw [if_pos (by omega)]
    exact specCrc_b ok hl i (by omega) b hb e r hr m
theorem specCrc_ev {l : List Int} (ok : OkL l) (hl : l.length ≤ 281474976710656) : Ev (fun k => spec_Crc.f k l) (4294967295 - (crcN (natL l) : Int)) := by
  simp only [spec_Crc.f]
  exact specCrc_l ok hl l.length 0 4294967295 (by omega) (by omega)

def sup (g b s l c : Nat) : List Int := beB 8 g ++ beB 1 b ++ beB 4 s ++ beB 4 l ++ beB 4 c ++ List.replicate 35 0 ++ beB 8 g
theorem sup_len (g b s l c : Nat) : (sup g b s l c).length = 64 := by simp [sup, beB_len]
def okS (g b s l c : Int) : Prop := 1 ≤ g ∧ 0 ≤ b ∧ b ≤ 1 ∧ 0 ≤ s ∧ s ≤ 2147483647 ∧ 0 ≤ l ∧ l ≤ 4096 ∧ 0 ≤ c ∧ c ≤ 4294967295
theorem specPad (g b s l c : Nat) (hg : g < 9223372036854775808) (d : Nat) : ∀ (x : List Int), x.length + d = 56 → Ev (fun k => spec_EncodeSuper.l0 k x g b s l c) (x ++ List.replicate d 0 ++ beB 8 g) := by
  induction d with
  | zero =>
    intro x hx
    refine Ev.step (fun k => by simp only [spec_EncodeSuper.l0]; exact if_neg (by omega)) ?_
    refine Ev.bind (specBig_ev 8 g hg (by omega)) (Ev.pos (by rw [beB_len]; omega) ?_)
    simp only [List.replicate_zero, List.append_nil]
    exact Ev.now _
  | succ d ih =>
    intro x hx
    refine Ev.step (fun k => by simp only [spec_EncodeSuper.l0]; rw [if_pos (by omega), Option.bind_some]) ?_
    refine Ev.pos (by simp; omega) ?_
    rw [List.replicate_succ, show x ++ (0 : Int) :: List.replicate d 0 = (x ++ [0]) ++ List.replicate d 0 by simp]
    exact ih _ (by simp; omega)
theorem specEnc_ev (g b s l c : Nat) (h : okS g b s l c) (hv : spec_l4ValidSuper.f g b s l c = some true) (hg : g < 9223372036854775808) : Ev (fun k => spec_EncodeSuper.f k g b s l c) (sup g b s l c) := by
  have ⟨h1, h2, h3, h4, h5, h6, h7, h8, h9⟩ := h
  simp only [spec_EncodeSuper.f]
  refine Ev.bindS hv (Ev.pos rfl ?_)
  refine Ev.bind (specBig_ev 8 g hg (by omega)) ?_
  simp only [Option.bind_some]
  refine Ev.pos (by simp [beB_len]) ?_
  refine Ev.bind (specBig_ev 4 s (by omega) (by omega)) (Ev.pos (by simp [beB_len]) ?_)
  refine Ev.bind (specBig_ev 4 l (by omega) (by omega)) (Ev.pos (by simp [beB_len]) ?_)
  refine Ev.bind (specBig_ev 4 c (by omega) (by omega)) (Ev.pos (by simp [beB_len]) ?_)
  have e : [(b : Int) % 256] = beB 1 b := by simp [beB]
  rw [e]
  exact specPad g b s l c hg 35 _ (by simp [beB_len])
theorem implBlock_ev (g b s l c : Nat) (h : okS g b s l c) (hg : g < 9223372036854775808) : Ev (fun k => impl_Super_block.f k g b s l c) (sup g b s l c) := by
  have ⟨h1, h2, h3, h4, h5, h6, h7, h8, h9⟩ := h
  simp only [impl_Super_block.f]
  refine Ev.bind (a := sup g b s l c) ?_ (Ev.pos (sup_len g b s l c) (Ev.now _))
  refine Ev.bind (implBig_ev [] 8 g hg (by omega) (by simp)) ?_
  refine Ev.bind (implBig_ev _ 1 b (by omega) (by omega) (by simp [beB_len])) ?_
  refine Ev.bind (implBig_ev _ 4 s (by omega) (by omega) (by simp [beB_len])) ?_
  refine Ev.bind (implBig_ev _ 4 l (by omega) (by omega) (by simp [beB_len])) ?_
  refine Ev.bind (implBig_ev _ 4 c (by omega) (by omega) (by simp [beB_len])) ?_
  have e : wrap64 (56 - (((([] : List Int) ++ beB 8 g ++ beB 1 b ++ beB 4 s ++ beB 4 l ++ beB 4 c).length : Nat) : Int)) = 35 := by
    simp only [List.length_append, beB_len, List.length_nil]; exact w64 (by omega) (by omega)
  rw [e]
  refine Ev.pos (by omega) (Ev.pos (by simp [beB_len]) ?_)
  refine Ev.bind (implBig_ev _ 8 g hg (by omega) (by simp [beB_len])) ?_
  exact Ev.now _

theorem l1Copy_l (l : List Int) (hl : l.length ≤ 1099511627776) (d : Nat) : ∀ (i : Nat) (x : List Int), i + d = l.length → x = l.take i → Ev (fun k => spec_l1Copy.l0 k l x i) l := by
  induction d with
  | zero =>
    intro i x hi hx
    refine Ev.step (fun k => by simp only [spec_l1Copy.l0]; exact if_neg (by omega)) ?_
    rw [hx, List.take_of_length_le (by omega)]; exact Ev.now _
  | succ d ih =>
    intro i x hi hx
    have hxl : x.length ≤ i := by rw [hx, List.length_take]; omega
    refine Ev.step (fun k => by simp only [spec_l1Copy.l0]; rw [if_pos (by omega), if_pos (by omega), if_pos (by omega), w64 (by omega) (by omega)]) ?_
    refine ih (i + 1) _ (by omega) ?_
    have : rd l (i : Int) = l[i] := by unfold rd; simp [show i < l.length by omega]
    rw [hx, List.take_add_one, List.getElem?_eq_getElem (by omega), this]
    simp
theorem l1Copy_ev (l : List Int) (hl : l.length ≤ 1099511627776) : Ev (fun k => spec_l1Copy.f k l) l := l1Copy_l l hl l.length 0 [] (by omega) rfl
theorem eqByteS_l (x : List Int) (hl : x.length ≤ 281474976710656) (d : Nat) : ∀ (i : Nat), i + d = x.length → ∀ k, d < k → laws_eqByteS.l0 k x x i = some true := by
  induction d with
  | zero =>
    intro i hi k hk
    obtain ⟨k, rfl⟩ : ∃ m, k = m + 1 := ⟨k - 1, by omega⟩
    simp only [laws_eqByteS.l0]
    rw [if_neg (by omega)]
  | succ d ih =>
    intro i hi k hk
    obtain ⟨k, rfl⟩ : ∃ m, k = m + 1 := ⟨k - 1, by omega⟩
    simp only [laws_eqByteS.l0]
    rw [if_pos (by omega), if_pos (by omega), if_pos (by omega), if_pos trivial, w64 (by omega) (by omega)]
    exact ih (i + 1) (by omega) k (by omega)
theorem eqByteS_ev (l : List Int) (hl : l.length ≤ 281474976710656) : Ev (fun k => laws_eqByteS.f k l l) true := by
  refine ⟨l.length + 1, fun k hk => ?_⟩
  simp only [laws_eqByteS.f]
  rw [if_pos trivial]
  exact eqByteS_l l hl l.length 0 (by omega) k (by omega)

theorem eqWrite_ev (x : S195) (h : x.f1.length ≤ 281474976710656) : Ev (fun k => laws_eqWrite.f k x.f0 x.f1 x.f0 x.f1) true := by
  simp only [laws_eqWrite.f]
  exact Ev.pos (by trivial) (Ev.bind (eqByteS_ev _ h) (Ev.pos (by trivial) (Ev.now _)))
theorem eqWriteS_l (l : List S195) (hl : l.length ≤ 281474976710656) (hb : ∀ x ∈ l, x.f1.length ≤ 281474976710656) (d : Nat) : ∀ (i : Nat), i + d = l.length → Ev (fun k => laws_eqWriteS.l0 k l l i) true := by
  induction d with
  | zero =>
    intro i hi
    refine Ev.step (fun k => by simp only [laws_eqWriteS.l0]; exact if_neg (by omega)) (Ev.now _)
  | succ d ih =>
    intro i hi
    refine Ev.step (fun k => by simp only [laws_eqWriteS.l0]; rw [if_pos (by omega), if_pos (by omega), if_pos (by omega), w64 (by omega) (by omega)]) ?_
    have e : rd_T195 l i = l[i] := by simp [rd_T195, show i < l.length by omega]
    rw [e]
    refine Ev.bind (eqWrite_ev l[i] (hb _ (List.getElem_mem _))) ?_
    exact Ev.pos (by trivial) (ih (i + 1) (by omega))
theorem eqWriteS_ev (l : List S195) (hl : l.length ≤ 281474976710656) (hb : ∀ x ∈ l, x.f1.length ≤ 281474976710656) : Ev (fun k => laws_eqWriteS.f k l l) true := by
  simp only [laws_eqWriteS.f]
  exact Ev.pos (by trivial) (eqWriteS_l l hl hb l.length 0 (by omega))
theorem eqDisk_ev (a : List Int) (l : List S195) (ha : a.length ≤ 281474976710656) (hl : l.length ≤ 281474976710656) (hb : ∀ x ∈ l, x.f1.length ≤ 281474976710656) : Ev (fun k => laws_eqDisk.f k a l a l) true := by
  simp only [laws_eqDisk.f]
  exact Ev.bind (eqByteS_ev _ ha) (Ev.pos (by trivial) (Ev.bind (eqWriteS_ev _ hl hb) (Ev.pos (by trivial) (Ev.now _))))

def markB (a : Int) (l : List Int) : List Int := (List.range l.length).map fun i : Nat => (a + (i : Int)) % 256
theorem markByteS_l (a : Int) (ha : 0 ≤ a) (ha2 : a ≤ 4611686018427387904) (n : Nat) (hl : n ≤ 281474976710656) (d : Nat) : ∀ (i : Nat) (x : List Int), i + d = n → x.length = n → x.take i = (List.range i).map (fun i : Nat => (a + (i : Int)) % 256) → ∀ k, d < k → laws_markByteS.l0 k x (a + i) i = some (a + n, (List.range n).map fun i : Nat => (a + (i : Int)) % 256) := by
  induction d with
  | zero =>
    intro i x hi hx ht k hk
    obtain ⟨k, rfl⟩ : ∃ m, k = m + 1 := ⟨k - 1, by omega⟩
    simp only [laws_markByteS.l0]
    rw [if_neg (by omega)]
    rw [List.take_of_length_le (by omega)] at ht
    obtain rfl : i = n := by omega
    rw [ht]
  | succ d ih =>
    intro i x hi hx ht k hk
    obtain ⟨k, rfl⟩ : ∃ m, k = m + 1 := ⟨k - 1, by omega⟩
    simp only [laws_markByteS.l0]
    rw [if_pos (by omega), if_pos (by omega), w64 (by omega) (by omega), w64 (by omega) (by omega), Int.toNat_natCast]
    have e1 : a + (i : Int) + 1 = a + ((i + 1 : Nat) : Int) := by omega
    have e2 : (i : Int) + 1 = ((i + 1 : Nat) : Int) := by omega
    rw [e1, e2]
    refine ih (i + 1) _ (by omega) (by simpa using hx) ?_ k (by omega)
    rw [List.range_succ, List.map_append, ← ht, List.take_add_one]
    simp [List.take_set_of_le, hx, show i < n by omega]
theorem markByteS_ev (a : Int) (ha : 0 ≤ a) (ha2 : a ≤ 4611686018427387904) (l : List Int) (hl : l.length ≤ 281474976710656) : Ev (fun k => laws_markByteS.f k l a) (a + l.length, markB a l) := by
  refine ⟨l.length + 1, fun k hk => ?_⟩
  simp only [laws_markByteS.f]
  have := markByteS_l a ha ha2 l.length hl l.length 0 l (by omega) rfl (by simp) k (by omega)
  simpa [markB] using this
theorem heldByteS_l (a : Int) (ha : 0 ≤ a) (ha2 : a ≤ 4611686018427387904) (l : List Int) (hl : l.length ≤ 281474976710656) (d : Nat) : ∀ (i : Nat), i + d = l.length → ∀ k, d < k → laws_heldByteS.l0 k (markB a l) (a + i) i = some (a + l.length) := by
  have hml : (markB a l).length = l.length := by simp [markB]
  induction d with
  | zero =>
    intro i hi k hk
    obtain ⟨k, rfl⟩ : ∃ m, k = m + 1 := ⟨k - 1, by omega⟩
    simp only [laws_heldByteS.l0]
    rw [if_neg (by omega)]
    obtain rfl : i = l.length := by omega
    rfl
  | succ d ih =>
    intro i hi k hk
    obtain ⟨k, rfl⟩ : ∃ m, k = m + 1 := ⟨k - 1, by omega⟩
    simp only [laws_heldByteS.l0]
    have hrd : rd (markB a l) i = (a + (i : Int)) % 256 := by simp [rd, markB, show i < l.length by omega]
    rw [if_pos (by omega), if_pos (by omega), if_pos hrd, w64 (by omega) (by omega), w64 (by omega) (by omega)]
    have e1 : a + (i : Int) + 1 = a + ((i + 1 : Nat) : Int) := by omega
    have e2 : (i : Int) + 1 = ((i + 1 : Nat) : Int) := by omega
    rw [e1, e2]
    exact ih (i + 1) (by omega) k (by omega)
theorem heldByteS_ev (a : Int) (ha : 0 ≤ a) (ha2 : a ≤ 4611686018427387904) (l : List Int) (hl : l.length ≤ 281474976710656) : Ev (fun k => laws_heldByteS.f k (markB a l) a) (a + l.length) := by
  refine ⟨l.length + 1, fun k hk => ?_⟩
  simp only [laws_heldByteS.f]
  have := heldByteS_l a ha ha2 l hl l.length 0 (by omega) k (by omega)
  simpa using this


theorem markDisk0_ev (b : List Int) (hb : b.length ≤ 281474976710656) : Ev (fun k => laws_markDisk.f k b [] 1) (1 + b.length, markB 1 b) := by
  simp only [laws_markDisk.f, laws_markWriteS.f]
  refine Ev.bind (markByteS_ev 1 (by omega) (by omega) b hb) (Ev.bind (a := (1 : Int) + b.length) (Ev.step (fun k => by simp only [laws_markWriteS.l0]; exact if_neg (by simp)) (Ev.now _)) (Ev.now _))
theorem heldDisk0_ev (b : List Int) (hb : b.length ≤ 281474976710656) : Ev (fun k => laws_heldDisk.f k (markB 1 b) [] 1) (1 + b.length) := by
  simp only [laws_heldDisk.f, laws_heldWriteS.f]
  refine Ev.bind (heldByteS_ev 1 (by omega) (by omega) b hb) (Ev.neg (by omega) (Ev.bind (a := (1 : Int) + b.length) (Ev.step (fun k => by simp only [laws_heldWriteS.l0]; exact if_neg (by simp)) (Ev.now _)) (Ev.neg (by omega) (Ev.now _))))

theorem pad_l (n : Int) (d : Nat) : ∀ x : List Int, (x.length : Int) + d = n → n ≤ 1000000 → Ev (fun k => spec_l5Pad.l0 k n x) (x ++ List.replicate d 0) := by
  induction d with
  | zero =>
    intro x hx hn
    rw [List.replicate_zero, List.append_nil]
    exact Ev.step (fun k => by simp only [spec_l5Pad.l0]; exact if_neg (by omega)) (Ev.now _)
  | succ d ih =>
    intro x hx hn
    refine Ev.step (fun k => by simp only [spec_l5Pad.l0]; rw [if_pos (by omega), if_pos (by omega)]) ?_
    have h := ih (x ++ [0]) (by rw [List.length_append, List.length_singleton]; omega) hn
    rwa [List.append_assoc, List.singleton_append, ← List.replicate_succ] at h
theorem pad_ev (l : List Int) (n : Int) (hl : (l.length : Int) ≤ n) (hn : n ≤ 1000000) : Ev (fun k => spec_l5Pad.f k l n) (l ++ List.replicate (n - l.length).toNat 0) := by
  simp only [spec_l5Pad.f]
  exact Ev.bind (l1Copy_ev l (by omega)) (pad_l n _ l (by omega) hn)
theorem img0 : img (⟨(⟨#[47]⟩ : ByteArray), (⟨#[]⟩ : ByteArray), 0, 0, 0, 0, 0⟩ : S92) = [1, 47, 0, 0, 0, 0, 0, 0, 0, 0, 0, 0, 0, 0, 0, 0, 0, 0, 0, 0, 0, 0, 0] := by rfl
theorem enc0 : (encTree tr0).length ≤ 23 ∧ OkL (encTree tr0) := by
  unfold encTree
  split
  · have e : imgs tr0 tr0.length = [1, 47, 0, 0, 0, 0, 0, 0, 0, 0, 0, 0, 0, 0, 0, 0, 0, 0, 0, 0, 0, 0, 0] := by
      have h := imgs_succ tr0 0
      rw [show imgs tr0 0 = [] by rfl, List.nil_append] at h
      exact h.trans img0
    rw [e]
    exact ⟨by decide, by unfold OkL; decide⟩
  · exact ⟨by simp, fun x hx => by cases hx⟩
theorem valid1 (l c : Int) (h1 : 0 ≤ l) (h2 : l ≤ 4096) (h3 : 0 ≤ c) (h4 : c ≤ 4294967295) : spec_l4ValidSuper.f 1 0 0 l c = some true := by
  simp only [spec_l4ValidSuper.f]
  rw [if_pos (by omega), if_pos (by omega), if_pos (by omega), stat_e, show inSt 0 = true by decide, Option.bind_some, if_pos rfl, if_pos (by omega), if_pos (by omega), if_pos (by omega), decide_eq_true h4]
theorem yl_fmt (img blk : List Int) : yl (fmtM img blk) = fmtM img blk := by
  simp [yl, fmtM, YtjoafknckmoojaaDoorH.aget]
theorem fmt_is (img blk : List Int) (n : Nat) (hn : 256 ≤ n) (hi : img.length ≤ 64) (hb : blk.length = 64) : syncD (List.replicate n 0) (yl (fmtM img blk)) = List.replicate 64 0 ++ blk ++ img ++ List.replicate (n - (128 + img.length)) 0 := by
  have hp := padB_len hi
  have hz : (List.replicate n (0 : Int)) = List.replicate 128 0 ++ List.replicate 64 0 ++ List.replicate (n - 192) 0 := by
    rw [List.replicate_append_replicate, List.replicate_append_replicate]
    exact congrArg (fun x => List.replicate x (0 : Int)) (by omega)
  have h2 : put1 (List.replicate n 0) 2 (padB img) 64 = List.replicate 64 0 ++ List.replicate 64 0 ++ padB img ++ List.replicate (n - 192) 0 := by
    unfold put1
    rw [List.take_of_length_le (by omega : (padB img).length ≤ 64), List.take_replicate, List.drop_replicate, List.replicate_append_replicate, show min (64 * 2) n = 64 + 64 by omega, show n - (64 * 2 + 64) = n - 192 by omega]
  have h1 : put1 (List.replicate 64 0 ++ List.replicate 64 0 ++ padB img ++ List.replicate (n - 192) 0) 1 blk 64 = List.replicate 64 0 ++ blk ++ padB img ++ List.replicate (n - 192) 0 := by
    unfold put1
    rw [List.take_of_length_le (by omega : blk.length ≤ 64)]
    have t1 : (List.replicate 64 (0 : Int) ++ List.replicate 64 0 ++ padB img ++ List.replicate (n - 192) 0).take (64 * 1) = List.replicate 64 0 := by
      rw [List.append_assoc, List.append_assoc, List.take_append_of_le_length (by simp), List.take_of_length_le (by simp)]
    have t2 : (List.replicate 64 (0 : Int) ++ List.replicate 64 0 ++ padB img ++ List.replicate (n - 192) 0).drop (64 * 1 + 64) = padB img ++ List.replicate (n - 192) 0 := by
      rw [List.append_assoc, List.drop_append_of_le_length (by simp), List.drop_of_length_le (by simp), List.nil_append]
    rw [t1, t2, List.append_assoc, List.append_assoc, List.append_assoc]
  rw [yl_fmt]
  show put1 (put1 (List.replicate n 0) 2 (padB img) 64) 1 blk 64 = _
  rw [h2, h1, padB]
  have e : List.replicate (64 - img.length) (0 : Int) ++ List.replicate (n - 192) 0 = List.replicate (n - (128 + img.length)) 0 := by
    rw [List.replicate_append_replicate]
    exact congrArg (fun x => List.replicate x (0 : Int)) (by omega)
  rw [← e]
  simp only [List.append_assoc]
theorem fmtKey (a b : Int) : ∃ r : List Int, r.length ≤ 100000 ∧ Ev (fun k => spec_FormatDisk.f k a b) (r, []) ∧ Ev (fun k => impl_FormatDisk.f k a b) (r, []) := by
  by_cases h : 1 ≤ a ∧ a ≤ 64 ∧ 1 ≤ b ∧ b ≤ 64
  · obtain ⟨hl, ok⟩ := enc0
    have ht : tr0.length ≤ 1048576 ∧ ∀ x ∈ tr0, x.f0.size ≤ 1048576 := by
      refine ⟨by decide, fun x hx => ?_⟩
      simp only [tr0, List.mem_singleton] at hx
      subst hx
      decide
    have es := specEncTree_ev tr0 ht.1 ht.2
    have ei := implEncTree_ev tr0 ht.1 ht.2
    generalize encTree tr0 = E at hl ok es ei
    have cs := specCrc_ev ok (by omega)
    have ci := implCrc_ev ok (by omega)
    have hc : crcN (natL E) < 4294967296 := fold_lt _ _ (by omega)
    obtain ⟨c, hcc⟩ : ∃ c : Nat, (4294967295 - (crcN (natL E) : Int)) = (c : Int) := ⟨4294967295 - crcN (natL E), by omega⟩
    have hc2 : (c : Int) ≤ 4294967295 := by omega
    rw [hcc] at cs ci
    clear hcc
    have okk : okS ((1 : Nat) : Int) ((0 : Nat) : Int) ((0 : Nat) : Int) ((E.length : Nat) : Int) (c : Int) := ⟨by omega, by omega, by omega, by omega, by omega, by omega, by omega, by omega, hc2⟩
    have ss := specEnc_ev 1 0 0 E.length c okk (valid1 _ _ (by omega) (by omega) (by omega) hc2) (by omega)
    have si := implBlock_ev 1 0 0 E.length c okk (by omega)
    have hbl := sup_len 1 0 0 E.length c
    generalize sup 1 0 0 E.length c = B at ss si hbl
    have hN : (64 * (2 + 2 * (a + b))).toNat = 64 * (2 + 2 * (a.toNat + b.toNat)) := by omega
    refine ⟨List.replicate 64 0 ++ B ++ E ++ List.replicate ((64 * (2 + 2 * (a + b))).toNat - (128 + E.length)) 0, ?_, ?_, ?_⟩
    · simp only [List.length_append, List.length_replicate]; omega
    · simp only [spec_FormatDisk.f]
      have g : spec_l5Good.f a b = some true := by
        simp only [spec_l5Good.f]
        rw [if_pos (by omega), if_pos (by omega), if_pos (by omega), decide_eq_true h.2.2.2]
      refine Ev.bindS g (Ev.pos rfl (Ev.bindS rfl (Ev.bind es (Ev.bind cs (Ev.bind ss (Ev.bind (pad_ev [] 64 (by simp) (by omega)) ?_))))))
      rw [List.nil_append, List.length_nil, show (64 - ((0 : Nat) : Int)).toNat = 64 by omega]
      refine Ev.pos (by rw [List.length_replicate]; omega) ?_
      refine Ev.bindS rfl (Ev.pos (by rw [List.length_append, List.length_replicate]; omega) ?_)
      rw [w64 (x := a + b) (by omega) (by omega), w64 (x := 2 * (a + b)) (by omega) (by omega), w64 (x := 2 + 2 * (a + b)) (by omega) (by omega), w64 (x := 64 * (2 + 2 * (a + b))) (by omega) (by omega)]
      have hlen : (List.replicate 64 (0 : Int) ++ B ++ E).length = 128 + E.length := by simp only [List.length_append, List.length_replicate]; omega
      have hp := pad_ev (List.replicate 64 0 ++ B ++ E) (64 * (2 + 2 * (a + b))) (by rw [hlen]; omega) (by omega)
      rw [hlen, show (64 * (2 + 2 * (a + b)) - ((128 + E.length : Nat) : Int)).toNat = (64 * (2 + 2 * (a + b))).toNat - (128 + E.length) by omega] at hp
      exact Ev.bind hp (Ev.now _)
    · simp only [impl_FormatDisk.f]
      refine Ev.pos h (Ev.bind ei (Ev.bind ci (Ev.bind si (Ev.pos (by omega) ?_))))
      rw [fmt_is E B _ (by omega) (by omega) hbl]
      exact Ev.now _
  · refine ⟨[], by simp, ?_, ?_⟩
    · simp only [spec_FormatDisk.f]
      have g : spec_l5Good.f a b = some false := by
        simp only [spec_l5Good.f]
        by_cases h1 : a ≥ 1
        · rw [if_pos h1]
          by_cases h2 : a ≤ 64
          · rw [if_pos h2]
            by_cases h3 : b ≥ 1
            · rw [if_pos h3, decide_eq_false (by omega)]
            · rw [if_neg h3]
          · rw [if_neg h2]
        · rw [if_neg h1]
      exact Ev.bindS g (Ev.neg (by simp) (Ev.now _))
    · simp only [impl_FormatDisk.f]
      exact Ev.neg h (Ev.now _)
theorem FnExactFormatDisk : laws_FnExactFormatDisk.Pure := by
  intro a b _ _
  obtain ⟨r, hr, es, ei⟩ := fmtKey a b
  apply Ev.rounds
  simp only [laws_FnExactFormatDisk.f, laws_toConfig.f, Option.bind_some]
  have he := eqDisk_ev r [] (by omega) (by simp) (by simp)
  refine Ev.bind es (Ev.bind ei (Ev.bind he (Ev.pos rfl ?_)))
  refine Ev.bind (markDisk0_ev r (by omega)) (Ev.bind (heldDisk0_ev r (by omega)) ?_)
  exact Ev.neg (by omega) (Ev.pos rfl (Ev.bind ei (Ev.bind he (Ev.pos rfl (Ev.now _)))))

end Go.Proofs.YtjoafknckmoojaaDoor.Pure
