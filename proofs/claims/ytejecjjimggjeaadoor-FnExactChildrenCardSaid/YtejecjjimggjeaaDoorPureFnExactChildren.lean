/- What is proved: the law FnExactChildren returns true: at every tree of at most 2^20 letters and nodes in all and every path of at most 2^20 letters the program's Children answers as the reference's, leaves its tree alone, and hands out a slice that it does not share. Conditions: none but what the card's tie pays. -/
import Derived.Test.YtejecjjimggjeaaDoorGFnExactChildrenx10
import Derived.Lib.SplitLaws
import Derived.Lib.IndexBytes
namespace Go.Proofs.YtejecjjimggjeaaDoor.Pure
open Go.RowKit Go.Proofs.YtejecjjimggjeaaDoor.GFnExactChildren Go.Proofs.YtejecjjimggjeaaDoorW.PrintWords Go.Proofs.YtejecjjimggjeaaDoorW.PrintLast Go.Proofs.YtejecjjimggjeaaDoorW.PrintMore
set_option linter.unusedVariables false
set_option linter.unusedSimpArgs false

theorem w64 {x : Int} (h0 : -9223372036854775808 ≤ x) (h1 : x < 9223372036854775808) : wrap64 x = x := by unfold wrap64; omega
theorem Ev.pos {α : Type} {c : Prop} [Decidable c] {f g : Nat → Option α} {r : α} (hc : c) (h : Ev f r) : Ev (fun n => if c then f n else g n) r := Ev.congr (fun _ => if_pos hc) h
theorem Ev.neg {α : Type} {c : Prop} [Decidable c] {f g : Nat → Option α} {r : α} (hc : ¬c) (h : Ev g r) : Ev (fun n => if c then f n else g n) r := Ev.congr (fun _ => if_neg hc) h
theorem Ev.bindS {α β : Type} {g : Option α} {f : Nat → α → Option β} {a : α} {r : β} (h : g = some a) (k : Ev (fun n => f n a) r) : Ev (fun n => g.bind (f n)) r := Ev.congr (fun _ => by rw [h]; rfl) k
def consHead (b : UInt8) : List (List UInt8) → List (List UInt8)
  | [] => [[b]]
  | h :: t => (b :: h) :: t
def spl : List UInt8 → List (List UInt8)
  | [] => [[]]
  | b :: l => if b = 47 then [] :: spl l else consHead b (spl l)
def consPre (p : List UInt8) : List (List UInt8) → List (List UInt8)
  | [] => [p]
  | h :: t => (p ++ h) :: t
theorem spl_ne (l : List UInt8) : ∃ h t, spl l = h :: t := by
  cases l with
  | nil => exact ⟨[], [], rfl⟩
  | cons b l =>
    unfold spl
    split
    · exact ⟨_, _, rfl⟩
    · cases spl l <;> exact ⟨_, _, rfl⟩
theorem spl_sum (l : List UInt8) : ((spl l).map List.length).sum + (spl l).length = l.length + 1 := by
  induction l with
  | nil => rfl
  | cons b l ih =>
    unfold spl
    split
    · simp; omega
    · obtain ⟨h, t, e⟩ := spl_ne l
      rw [e] at ih ⊢
      simp [consHead] at ih ⊢; omega
theorem splitK_spl (l : List UInt8) : Go.Lib.splitK [47] 0 (Go.Lib.count l [47]) l = spl l := by
  induction l with
  | nil => rw [Go.Lib.count_miss (by rfl)]; rfl
  | cons b l ih =>
    unfold spl
    by_cases hb : b = 47
    · subst hb
      rw [if_pos rfl, Go.Lib.count_cons_eq, Nat.add_comm 1]
      have hi : Go.Lib.index (47 :: l) [47] = 0 := by rw [Go.Lib.index]; simp [List.isPrefixOf]
      unfold Go.Lib.splitK
      rw [hi]
      simp [ih]
    · rw [if_neg hb, Go.Lib.count_cons_ne b 47 l hb]
      have hi : Go.Lib.index (b :: l) [47] = if Go.Lib.index l [47] == -1 then -1 else Go.Lib.index l [47] + 1 := by
        rw [Go.Lib.index]
        have : ([47] : List UInt8).isPrefixOf (b :: l) = false := by simp [List.isPrefixOf, Ne.symm hb]
        rw [this]; simp
      rw [← ih]
      cases hc : Go.Lib.count l [47] with
      | zero => rfl
      | succ k =>
        have hm : ¬ Go.Lib.index l [47] = -1 := fun e => by rw [Go.Lib.count_miss e] at hc; omega
        have hge := Go.Lib.index_ge l [47]
        obtain ⟨j, hj⟩ : ∃ j : Nat, Go.Lib.index l [47] = j := ⟨(Go.Lib.index l [47]).toNat, by omega⟩
        unfold Go.Lib.splitK
        rw [hi, hj]
        have h1 : ¬ (((j : Nat) : Int) == -1) = true := by simp
        rw [if_neg h1, if_neg h1, if_neg (by simp; omega)]
        simp only [consHead]
        have h2 : ((j : Int) + 1).toNat = j + 1 := by omega
        rw [h2, Int.toNat_natCast]
        simp
theorem data_inj {a b : ByteArray} (h : a.data.toList = b.data.toList) : a = b := by
  obtain ⟨⟨l⟩⟩ := a
  obtain ⟨⟨m⟩⟩ := b
  simp at h
  rw [h]
theorem map_inj {xs ys : List ByteArray} (h : xs.map (fun s => s.data.toList) = ys.map (fun s => s.data.toList)) : xs = ys := by
  induction xs generalizing ys with
  | nil => cases ys with
    | nil => rfl
    | cons _ _ => simp at h
  | cons x xs ih => cases ys with
    | nil => simp at h
    | cons y ys =>
      simp only [List.map_cons, List.cons.injEq] at h
      rw [data_inj h.1, ih h.2]
/-- The pieces of a text between slashes. -/
def names (s : ByteArray) : List ByteArray := (spl s.data.toList).map fun l => ⟨l.toArray⟩
theorem names_data (s : ByteArray) : (names s).map (fun s => s.data.toList) = spl s.data.toList := by
  unfold names; rw [List.map_map]; simp [Function.comp_def]
theorem count_le (l : List UInt8) : Go.Lib.count l [47] ≤ l.length := by rw [Go.Lib.count_one]; exact List.count_le_length
theorem implSplit (s : ByteArray) (h : s.size ≤ 1000000) : strings_Split.f s (⟨#[47]⟩ : ByteArray) = some (names s) := by
  unfold strings_Split.f
  have hc : Go.Lib.countB s ⟨#[47]⟩ ≤ s.size := by
    show Go.Lib.count s.data.toList [47] ≤ _
    rw [Go.Lib.size_eq]; exact count_le _
  rw [if_pos ⟨by omega, by decide, by omega⟩]
  congr 1
  apply map_inj
  rw [names_data, Go.Lib.splitB_data]
  exact splitK_spl _
theorem bt_list (s : ByteArray) (i : Nat) (h : i < s.size) : ∃ b : UInt8, s.data.toList[i]? = some b ∧ bt s i = (b.toNat : Int) := by
  have hl : i < s.data.toList.length := by rw [← Go.Lib.size_eq]; exact h
  refine ⟨s.data.toList[i], List.getElem?_eq_getElem hl, ?_⟩
  unfold bt
  rw [dif_pos (by simpa using h)]
  congr 2
theorem specNames_l (s : ByteArray) (hs : s.size ≤ 1048576) (d : Nat) : ∀ (f i : Nat), f ≤ i → i + d = s.size → ∃ q : List ByteArray, q.map (fun s => s.data.toList) = consPre ((s.data.toList.drop f).take (i - f)) (spl (s.data.toList.drop i)) ∧ ∀ acc : List ByteArray, acc.length ≤ i + 1 → Ev (fun k => spec_l3Names.l0 k s acc f i) (acc ++ q) := by
  have hn : s.data.toList.length = s.size := (Go.Lib.size_eq s).symm
  induction d with
  | zero =>
    intro f i hf hi
    have hi' : i = s.size := by omega
    subst hi'
    refine ⟨[s.extract f s.size], ?_, fun acc ha => ?_⟩
    · rw [List.drop_of_length_le (l := s.data.toList) (i := s.size) (by omega)]
      simp [spl, consPre, Go.Lib.extract_data]
    · refine Ev.step (fun k => by simp only [spec_l3Names.l0]; rw [if_pos (by omega), if_pos (by trivial), if_pos (by omega), if_pos (by omega), if_pos (by omega), w64 (by omega) (by omega), Int.toNat_natCast, Int.toNat_natCast]) ?_
      exact Ev.step (fun k => by simp only [spec_l3Names.l0]; exact if_neg (by omega)) (Ev.now _)
  | succ d ih =>
    intro f i hf hi
    obtain ⟨b, hb, eb⟩ := bt_list s i (by omega)
    have hd : s.data.toList.drop i = b :: s.data.toList.drop (i + 1) := by
      rw [List.drop_eq_getElem_cons (by omega)]
      rw [List.getElem?_eq_getElem (by omega)] at hb
      rw [Option.some.inj hb]
    by_cases h47 : b = 47
    · obtain ⟨q, hq, he⟩ := ih (i + 1) (i + 1) (Nat.le_refl _) (by omega)
      refine ⟨s.extract f i :: q, ?_, fun acc ha => ?_⟩
      · rw [List.map_cons, hq, hd, h47]
        obtain ⟨x, t, e⟩ := spl_ne (s.data.toList.drop (i + 1))
        simp [spl, consPre, Go.Lib.extract_data, e]
      · refine Ev.step (fun k => by simp only [spec_l3Names.l0]; rw [if_pos (by omega), if_neg (by omega), if_pos (by omega), if_pos (by omega), eb, if_pos (by rw [h47]; rfl), if_pos (by omega), if_pos (by omega), if_pos (by omega), w64 (by omega) (by omega), Int.toNat_natCast, Int.toNat_natCast]) ?_
        have := he (acc ++ [s.extract f i]) (by simp; omega)
        rw [List.append_assoc] at this
        exact this
    · obtain ⟨q, hq, he⟩ := ih f (i + 1) (by omega) (by omega)
      refine ⟨q, ?_, fun acc ha => ?_⟩
      · rw [hq, hd]
        have h1 : spl (b :: s.data.toList.drop (i + 1)) = consHead b (spl (s.data.toList.drop (i + 1))) := by rw [spl, if_neg h47]
        obtain ⟨x, t, e⟩ := spl_ne (s.data.toList.drop (i + 1))
        rw [h1, e]
        simp only [consHead, consPre]
        congr 1
        rw [show i + 1 - f = (i - f) + 1 by omega, List.take_add_one, List.append_assoc]
        congr 1
        rw [List.getElem?_drop, show f + (i - f) = i by omega, hb]
        rfl
      · have hne : ¬ ((b.toNat : Int) = 47) := fun e => h47 (by
          have : b.toNat = 47 := by omega
          exact UInt8.toNat_inj.mp (by rw [this]; rfl))
        refine Ev.step (fun k => by simp only [spec_l3Names.l0]; rw [if_pos (by omega), if_neg (by omega), if_pos (by omega), if_pos (by omega), eb, if_neg hne, w64 (by omega) (by omega)]) ?_
        exact he acc (by omega)
theorem specNames_ev (s : ByteArray) (h1 : 1 ≤ s.size) (hs : s.size ≤ 1048576) : Ev (fun k => spec_l3Names.f k s) (names (s.extract 1 s.size)) := by
  obtain ⟨q, hq, he⟩ := specNames_l s hs (s.size - 1) 1 1 (Nat.le_refl _) (by omega)
  have e : q = names (s.extract 1 s.size) := by
    apply map_inj
    rw [names_data, hq, Go.Lib.extract_to_end]
    obtain ⟨x, t, e⟩ := spl_ne (s.data.toList.drop 1)
    rw [e]
    simp [consPre]
  rw [← e]
  simp only [spec_l3Names.f]
  exact he [] (by simp)

def letter (b : UInt8) : Bool := (decide (97 ≤ b.toNat) && decide (b.toNat ≤ 122)) || (decide (48 ≤ b.toNat) && decide (b.toNat ≤ 57))
def okName (s : ByteArray) : Bool := s.data.toList.all letter && decide (1 ≤ s.size) && decide (s.size ≤ 16)
theorem drop_cons (s : ByteArray) (i : Nat) (b : UInt8) (h : s.data.toList[i]? = some b) : s.data.toList.drop i = b :: s.data.toList.drop (i + 1) := by
  obtain ⟨hl, e⟩ := List.getElem?_eq_some_iff.1 h
  rw [List.drop_eq_getElem_cons hl, e]
theorem implName_l (s : ByteArray) (hs : s.size ≤ 1048576) (d : Nat) : ∀ (i : Nat), i + d = s.size → Ev (fun k => impl_validName.l0 k s (s.size : Int) i) ((s.data.toList.drop i).all letter && decide (1 ≤ s.size) && decide (s.size ≤ 16)) := by
  induction d with
  | zero =>
    intro i hi
    rw [List.drop_of_length_le (by rw [← Go.Lib.size_eq]; omega)]
    refine Ev.step (fun k => by simp only [impl_validName.l0]; exact if_neg (by omega)) ?_
    by_cases h1 : 1 ≤ s.size
    · refine Ev.pos (by omega) ?_
      rw [decide_eq_true h1]
      simp only [List.all_nil, Bool.true_and]
      refine Ev.congr (fun k => ?_) (Ev.now _)
      congr 1
      by_cases h2 : s.size ≤ 16
      · rw [decide_eq_true h2, decide_eq_true (by omega)]
      · rw [decide_eq_false h2, decide_eq_false (by omega)]
    · rw [decide_eq_false h1]
      simp only [List.all_nil, Bool.true_and, Bool.false_and]
      exact Ev.neg (by omega) (Ev.now _)
  | succ d ih =>
    intro i hi
    obtain ⟨b, hb, eb⟩ := bt_list s i (by omega)
    have hlt := b.toNat_lt
    rw [drop_cons s i b hb, List.all_cons]
    refine Ev.step (fun k => by simp only [impl_validName.l0]; rw [if_pos (by omega), if_pos (by omega), if_pos (by omega), eb, w64 (by omega) (by omega)]) ?_
    by_cases hl : letter b = true
    · rw [hl, Bool.true_and]
      have := ih (i + 1) (by omega)
      simp only [letter, Bool.or_eq_true, Bool.and_eq_true, decide_eq_true_eq] at hl
      by_cases c1 : (b.toNat : Int) < 97
      · exact Ev.pos c1 (Ev.neg (by omega) (Ev.neg (by omega) this))
      · exact Ev.neg c1 (Ev.neg (by omega) this)
    · have hl' : letter b = false := by simpa using hl
      rw [hl']
      simp only [Bool.false_and]
      simp only [letter, Bool.or_eq_true, Bool.and_eq_true, decide_eq_true_eq] at hl
      by_cases c1 : (b.toNat : Int) < 97
      · by_cases c2 : (b.toNat : Int) < 48
        · exact Ev.pos c1 (Ev.pos c2 (Ev.now _))
        · exact Ev.pos c1 (Ev.neg c2 (Ev.pos (by omega) (Ev.now _)))
      · exact Ev.neg c1 (Ev.pos (by omega) (Ev.neg (by omega) (Ev.pos (by omega) (Ev.now _))))
theorem implName_ev (s : ByteArray) (hs : s.size ≤ 1048576) : Ev (fun k => impl_validName.f k s) (okName s) := by
  simp only [impl_validName.f]
  exact implName_l s hs s.size 0 (by omega)
theorem specLetter_e (b : UInt8) : spec_l3Letter.f (b.toNat : Int) = some (letter b) := by
  simp only [spec_l3Letter.f]
  by_cases c1 : (b.toNat : Int) ≥ 97
  · rw [if_pos c1]
    by_cases c2 : (b.toNat : Int) ≤ 122
    · rw [if_pos c2]; congr 1; simp only [letter]; rw [decide_eq_true (by omega), decide_eq_true (by omega)]; rfl
    · rw [if_neg c2, if_pos (by omega)]
      congr 1; simp only [letter]; rw [decide_eq_false (by omega), decide_eq_false (p := b.toNat ≤ 122) (by omega), decide_eq_false (p := b.toNat ≤ 57) (by omega)]; simp
  · rw [if_neg c1]
    by_cases c3 : (b.toNat : Int) ≥ 48
    · rw [if_pos c3]
      congr 1; simp only [letter]; rw [decide_eq_false (p := 97 ≤ b.toNat) (by omega), decide_eq_true (p := 48 ≤ b.toNat) (by omega)]
      by_cases c4 : b.toNat ≤ 57
      · rw [decide_eq_true c4, decide_eq_true (by omega)]; rfl
      · rw [decide_eq_false c4, decide_eq_false (by omega)]; rfl
    · rw [if_neg c3]
      congr 1; simp only [letter]; rw [decide_eq_false (p := 97 ≤ b.toNat) (by omega), decide_eq_false (p := 48 ≤ b.toNat) (by omega)]; rfl
theorem rdN (l : List ByteArray) (i : Nat) (h : i < l.length) : rdOf ByteArray.empty l i = l[i] := by simp [rdOf, h]
theorem specName_1 (l : List ByteArray) (i : Nat) (hi : i < l.length) (hl : l.length ≤ 1048577) (hs : l[i].size ≤ 1048576) (r : Bool) (hk : l[i].data.toList.all letter = true → Ev (fun k => spec_ValidPath.l0 k l ((i + 1 : Nat) : Int)) r) (hf : l[i].data.toList.all letter = false → r = false) (d : Nat) : ∀ (j : Nat), j + d = l[i].size → (l[i].data.toList.take j).all letter = true → Ev (fun k => spec_ValidPath.l1 k l i j) r := by
  induction d with
  | zero =>
    intro j hj ht
    refine Ev.step (fun k => by simp only [spec_ValidPath.l1]; rw [if_pos (by omega), if_pos (by omega), rdN l i hi, if_neg (by omega), w64 (by omega) (by omega)]) ?_
    rw [List.take_of_length_le (by rw [← Go.Lib.size_eq]; omega)] at ht
    exact hk ht
  | succ d ih =>
    intro j hj ht
    obtain ⟨b, hb, eb⟩ := bt_list l[i] j (by omega)
    refine Ev.step (fun k => by simp only [spec_ValidPath.l1]; rw [if_pos (by omega), if_pos (by omega), rdN l i hi, if_pos (by omega), if_pos (by omega), eb, specLetter_e, Option.bind_some, w64 (by omega) (by omega)]) ?_
    by_cases hlb : letter b = true
    · refine Ev.pos hlb (ih (j + 1) (by omega) ?_)
      rw [List.take_add_one, hb, List.all_append, ht]
      simp [hlb]
    · refine Ev.neg hlb ?_
      have : r = false := by
        apply hf
        rw [← List.take_append_drop j l[i].data.toList, drop_cons _ j b hb, List.all_append, List.all_cons]
        simp [hlb]
      rw [this]; exact Ev.now _
theorem specAll_l (l : List ByteArray) (hl : l.length ≤ 1048577) (hs : ∀ x ∈ l, x.size ≤ 1048576) (d : Nat) : ∀ (i : Nat), i + d = l.length → Ev (fun k => spec_ValidPath.l0 k l i) ((l.drop i).all okName) := by
  induction d with
  | zero =>
    intro i hi
    rw [List.drop_of_length_le (by omega)]
    exact Ev.step (fun k => by simp only [spec_ValidPath.l0]; exact if_neg (by omega)) (Ev.now _)
  | succ d ih =>
    intro i hi
    rw [List.drop_eq_getElem_cons (by omega), List.all_cons]
    refine Ev.step (fun k => by simp only [spec_ValidPath.l0]; rw [if_pos (by omega), if_pos (by omega), rdN l i (by omega)]) ?_
    by_cases c1 : l[i].size < 1
    · have : okName l[i] = false := by simp only [okName]; rw [decide_eq_false (by omega)]; simp
      rw [this, Bool.false_and]
      exact Ev.pos (by omega) (Ev.step (fun k => by simp only [spec_ValidPath.j2]; exact if_pos (by trivial)) (Ev.now _))
    refine Ev.neg (by omega) ?_
    by_cases c2 : l[i].size ≤ 16
    · rw [decide_eq_false (by omega)]
      refine Ev.step (fun k => by simp only [spec_ValidPath.j2]; exact if_neg (by simp)) ?_
      refine specName_1 l i (by omega) hl (hs _ (List.getElem_mem _)) _ (fun h => ?_) (fun h => ?_) l[i].size 0 (by omega) (by simp)
      · have : okName l[i] = true := by simp only [okName, h]; rw [decide_eq_true (by omega), decide_eq_true c2]; rfl
        rw [this, Bool.true_and]
        exact ih (i + 1) (by omega)
      · have : okName l[i] = false := by simp only [okName, h]; rfl
        rw [this, Bool.false_and]
    · have : okName l[i] = false := by simp only [okName]; rw [decide_eq_false c2]; simp
      rw [this, Bool.false_and, decide_eq_true (by omega)]
      exact Ev.step (fun k => by simp only [spec_ValidPath.j2]; exact if_pos (by trivial)) (Ev.now _)
theorem implAll_l (l : List ByteArray) (hl : l.length ≤ 1048577) (hs : ∀ x ∈ l, x.size ≤ 1048576) (d : Nat) : ∀ (i : Nat), i + d = l.length → Ev (fun k => impl_ValidPath.l0 k l l (l.length : Int) i) ((l.drop i).all okName && decide (l.length ≤ 6)) := by
  induction d with
  | zero =>
    intro i hi
    rw [List.drop_of_length_le (by omega)]
    refine Ev.step (fun k => by simp only [impl_ValidPath.l0]; exact if_neg (by omega)) ?_
    simp only [List.all_nil, Bool.true_and]
    refine Ev.congr (fun k => ?_) (Ev.now _)
    congr 1
    by_cases h2 : l.length ≤ 6
    · rw [decide_eq_true h2, decide_eq_true (by omega)]
    · rw [decide_eq_false h2, decide_eq_false (by omega)]
  | succ d ih =>
    intro i hi
    rw [List.drop_eq_getElem_cons (by omega), List.all_cons]
    refine Ev.step (fun k => by simp only [impl_ValidPath.l0]; rw [if_pos (by omega), if_pos (by omega), if_pos (by omega), rdN l i (by omega), w64 (by omega) (by omega)]) ?_
    refine Ev.bind (implName_ev l[i] (hs _ (List.getElem_mem _))) ?_
    by_cases c : okName l[i] = true
    · rw [c, Bool.true_and]; exact Ev.pos (by trivial) (ih (i + 1) (by omega))
    · have c' : okName l[i] = false := by simpa using c
      rw [c']
      simp only [Bool.false_and]
      exact Ev.neg (by simp) (Ev.now _)
/-- What both answer. -/
def okPath (s : ByteArray) : Bool := if s.data.toList = [47] then true else decide (2 ≤ s.size) && decide (s.data.toList.head? = some 47) && decide ((names (s.extract 1 s.size)).length ≤ 6) && (names (s.extract 1 s.size)).all okName
theorem names_len (s : ByteArray) : (names s).length ≤ s.size + 1 := by
  have h := spl_sum s.data.toList
  have e := Go.Lib.size_eq s
  have e2 : (names s).length = (spl s.data.toList).length := by simp [names]
  omega
theorem names_size (s : ByteArray) : ∀ x ∈ names s, x.size ≤ s.size := by
  intro x hx
  obtain ⟨l, hl, rfl⟩ := List.mem_map.mp hx
  have h := spl_sum s.data.toList
  have h2 : ∀ (L : List (List UInt8)), l ∈ L → l.length ≤ (L.map List.length).sum := by
    intro L hm
    induction L with
    | nil => cases hm
    | cons a L ih =>
      rcases List.mem_cons.mp hm with rfl | hm
      · simp
      · have := ih hm; simp; omega
  have h3 := h2 _ hl
  obtain ⟨a, t, e⟩ := spl_ne s.data.toList
  have h4 : 1 ≤ (spl s.data.toList).length := by rw [e]; simp
  rw [Go.Lib.size_eq, Go.Lib.size_eq]
  show l.toArray.toList.length ≤ _
  simp at h ⊢; omega
theorem names_bound (s : ByteArray) (h1 : (names s).length ≤ 6) (h2 : (names s).all okName = true) : s.size ≤ 101 := by
  have h := spl_sum s.data.toList
  have h3 : ∀ (L : List (List UInt8)), (L.map fun l => (⟨l.toArray⟩ : ByteArray)).all okName = true → (L.map List.length).sum ≤ 16 * L.length := by
    intro L
    induction L with
    | nil => intro _; simp
    | cons a L ih =>
      intro hL
      simp only [List.map_cons, List.all_cons, Bool.and_eq_true] at hL
      have h5 := ih hL.2
      have h6 : a.length ≤ 16 := by
        have := hL.1
        simp only [okName, Bool.and_eq_true, decide_eq_true_eq] at this
        have := this.2
        rw [Go.Lib.size_eq] at this
        simpa using this
      simp only [List.map_cons, List.sum_cons, List.length_cons]
      omega
  have h7 := h3 _ h2
  have h8 : (spl s.data.toList).length ≤ 6 := by simpa [names] using h1
  rw [Go.Lib.size_eq]
  omega
theorem ext_size1 (s : ByteArray) : (s.extract 1 s.size).size = s.size - 1 := by rw [ByteArray.size_extract]; omega
theorem specPath_ev (s : ByteArray) (hs : s.size ≤ 1048576) : Ev (fun k => spec_ValidPath.f k s) (okPath s) := by
  simp only [spec_ValidPath.f]
  rw [Go.Lib.toList_data]
  unfold okPath
  by_cases h0 : s.data.toList = [47]
  · rw [if_pos h0]; exact Ev.pos h0 (Ev.now _)
  rw [if_neg h0]
  refine Ev.neg h0 ?_
  by_cases h1 : s.size < 2
  · rw [decide_eq_false (by omega)]
    simp only [Bool.false_and]
    exact Ev.pos (by omega) (Ev.step (fun k => by simp only [spec_ValidPath.j0]; exact if_pos (by trivial)) (Ev.now _))
  refine Ev.neg (by omega) (Ev.pos (by omega) ?_)
  obtain ⟨b, hb, eb⟩ := bt_list s 0 (by omega)
  have eb' : bt s 0 = (b.toNat : Int) := eb
  have hh : s.data.toList.head? = some b := by rw [List.head?_eq_getElem?]; exact hb
  rw [eb', hh, decide_eq_true (p := 2 ≤ s.size) (by omega), Bool.true_and]
  by_cases h47 : b = 47
  · subst h47
    rw [decide_eq_true rfl, Bool.true_and]
    refine Ev.step (fun k => by simp only [spec_ValidPath.j0]; exact if_neg (by decide)) ?_
    refine Ev.bind (specNames_ev s (by omega) hs) ?_
    by_cases h6 : (names (s.extract 1 s.size)).length ≤ 6
    · rw [decide_eq_true h6, Bool.true_and]
      refine Ev.neg (by omega) ?_
      have hn := names_len (s.extract 1 s.size)
      rw [ext_size1] at hn
      exact specAll_l _ (by omega) (fun x hx => by have := names_size _ x hx; rw [ext_size1] at this; omega) (names (s.extract 1 s.size)).length 0 (by omega)
    · rw [decide_eq_false h6, Bool.false_and]
      exact Ev.pos (by omega) (Ev.now _)
  · rw [decide_eq_false (by simpa using h47)]
    simp only [Bool.false_and]
    have : ((b.toNat : Int) != 47) = true := by
      have : b.toNat ≠ 47 := fun e => h47 (UInt8.toNat_inj.mp (by rw [e]; rfl))
      simp; omega
    rw [this]
    exact Ev.step (fun k => by simp only [spec_ValidPath.j0]; exact if_pos (by trivial)) (Ev.now _)
theorem cut_e (s : ByteArray) : ∃ p : Bool, p = decide (s.data.toList.head? = some 47) ∧ strings_CutPrefix.f s (⟨#[47]⟩ : ByteArray) = some (if p = true then (s.extract 1 s.size, true) else (s, false)) := by
  refine ⟨_, rfl, ?_⟩
  simp only [strings_CutPrefix.f, stringslite_CutPrefix.f, stringslite_HasPrefix.f]
  have e1 : ((⟨#[47]⟩ : ByteArray).size : Int) = 1 := rfl
  rw [e1]
  by_cases h1 : (s.size : Int) ≥ 1
  · rw [if_pos h1, if_pos (by omega), if_pos (by omega), Option.bind_some]
    have e2 : (s.extract 0 (1 : Int).toNat).toList = s.data.toList.take 1 := by
      rw [Go.Lib.extract_toList]; simp
    have e3 : (⟨#[47]⟩ : ByteArray).toList = [47] := by rw [Go.Lib.toList_data]
    rw [e2, e3]
    have hne : s.data.toList ≠ [] := fun e => by rw [Go.Lib.size_eq, e] at h1; simp at h1
    obtain ⟨b, t, e⟩ := List.exists_cons_of_ne_nil hne
    rw [e]
    by_cases hb : b = 47
    · subst hb; simp
      rw [if_pos (by omega)]; rfl
    · simp [hb]
  · rw [if_neg h1, Option.bind_some]
    have : s.data.toList = [] := by
      have h2 : s.data.toList.length = 0 := by rw [← Go.Lib.size_eq]; omega
      exact List.length_eq_zero_iff.mp h2
    rw [this]; simp
theorem implPath_ev (s : ByteArray) (hs : s.size ≤ 1048576) : Ev (fun k => impl_ValidPath.f k s) (okPath s) := by
  simp only [impl_ValidPath.f]
  rw [Go.Lib.toList_data]
  unfold okPath
  by_cases h0 : s.data.toList = [47]
  · rw [if_pos h0]; exact Ev.pos h0 (Ev.now _)
  rw [if_neg h0]
  refine Ev.neg h0 ?_
  obtain ⟨p, hp, hc⟩ := cut_e s
  refine Ev.bindS hc ?_
  by_cases h47 : s.data.toList.head? = some 47
  · rw [decide_eq_true h47] at hp
    subst hp
    rw [decide_eq_true h47, Bool.and_true]
    have h2 : 2 ≤ s.size := by
      rw [Go.Lib.size_eq]
      cases e : s.data.toList with
      | nil => rw [e] at h47; cases h47
      | cons b t =>
        rw [e] at h47 h0
        cases t with
        | nil => simp at h47; simp [h47] at h0
        | cons _ _ => simp
    rw [decide_eq_true h2, Bool.true_and]
    refine Ev.pos (by trivial) ?_
    by_cases h102 : s.size ≤ 102
    · rw [decide_eq_false (by omega)]
      refine Ev.step (fun k => by simp only [impl_ValidPath.j0]; exact if_neg (by simp)) ?_
      refine Ev.bindS (implSplit (s.extract 1 s.size) (by rw [ext_size1]; omega)) ?_
      have hn := names_len (s.extract 1 s.size)
      rw [ext_size1] at hn
      rw [Bool.and_comm]
      exact implAll_l _ (by omega) (fun x hx => by have := names_size _ x hx; rw [ext_size1] at this; omega) (names (s.extract 1 s.size)).length 0 (by omega)
    · rw [decide_eq_true (by omega)]
      have : (decide ((names (s.extract 1 s.size)).length ≤ 6) && (names (s.extract 1 s.size)).all okName) = false := by
        cases h : (decide ((names (s.extract 1 s.size)).length ≤ 6) && (names (s.extract 1 s.size)).all okName) with
        | false => rfl
        | true =>
          simp only [Bool.and_eq_true, decide_eq_true_eq] at h
          have := names_bound _ h.1 h.2
          rw [ext_size1] at this
          omega
      rw [this]
      exact Ev.step (fun k => by simp only [impl_ValidPath.j0]; exact if_pos (by trivial)) (Ev.now _)
  · rw [decide_eq_false h47] at hp
    subst hp
    rw [decide_eq_false h47]
    simp only [Bool.and_false, Bool.false_and]
    exact Ev.neg (by simp) (Ev.step (fun k => by simp only [impl_ValidPath.j0]; exact if_pos (by trivial)) (Ev.now _))

def inSt (v : Int) : Bool := decide (0 ≤ v) && decide (v ≤ 2147483647)
theorem stat_e (v : Int) : spec_l3Stat.f v = some (inSt v) := by
  simp only [spec_l3Stat.f, inSt]
  by_cases h : v ≥ 0
  · rw [if_pos h, decide_eq_true (p := 0 ≤ v) h, Bool.true_and]
  · rw [if_neg h, decide_eq_false (p := 0 ≤ v) h, Bool.false_and]
theorem inSt_i (v : Int) : inSt v = decide (inStat v) := by
  unfold inSt inStat
  by_cases h1 : 0 ≤ v <;> by_cases h2 : v ≤ 2147483647 <;> simp [h1, h2]
def okNode (x : S53) : Bool := okPath x.f0 && decide (x.f1.size ≤ 64) && inSt x.f2 && inSt x.f3 && inSt x.f4 && inSt x.f5 && inSt x.f6
theorem specNode_ev (x : S53) (h : x.f0.size ≤ 1048576) : Ev (fun k => spec_l3ValidNode.f k x.f0 x.f1 x.f2 x.f3 x.f4 x.f5 x.f6) (okNode x) := by
  simp only [spec_l3ValidNode.f, okNode]
  refine Ev.bind (specPath_ev _ h) ?_
  cases okPath x.f0 with
  | false => simp only [Bool.false_and]; exact Ev.neg (by simp) (Ev.now _)
  | true =>
    refine Ev.pos (by trivial) ?_
    by_cases h1 : x.f1.size ≤ 64
    rotate_left
    · rw [decide_eq_false h1]; simp only [Bool.and_false, Bool.false_and]; exact Ev.neg (by omega) (Ev.now _)
    rw [decide_eq_true h1]
    simp only [Bool.true_and]
    refine Ev.pos (by omega) (Ev.bindS (stat_e _) ?_)
    cases inSt x.f2 with
    | false => simp only [Bool.false_and]; exact Ev.neg (by simp) (Ev.now _)
    | true =>
    simp only [Bool.true_and]
    refine Ev.pos (by trivial) (Ev.bindS (stat_e _) ?_)
    cases inSt x.f3 with
    | false => simp only [Bool.false_and]; exact Ev.neg (by simp) (Ev.now _)
    | true =>
    simp only [Bool.true_and]
    refine Ev.pos (by trivial) (Ev.bindS (stat_e _) ?_)
    cases inSt x.f4 with
    | false => simp only [Bool.false_and]; exact Ev.neg (by simp) (Ev.now _)
    | true =>
    simp only [Bool.true_and]
    refine Ev.pos (by trivial) (Ev.bindS (stat_e _) ?_)
    cases inSt x.f5 with
    | false => simp only [Bool.false_and]; exact Ev.neg (by simp) (Ev.now _)
    | true =>
    simp only [Bool.true_and]
    exact Ev.pos (by trivial) (Ev.bindS (stat_e _) (Ev.now _))
theorem implNode_ev (x : S53) (h : x.f0.size ≤ 1048576) : Ev (fun k => impl_Node_valid.f k x.f0 x.f1 x.f2 x.f3 x.f4 x.f5 x.f6) (okNode x) := by
  simp only [impl_Node_valid.f, okNode]
  by_cases hs : inStat x.f2 ∧ inStat x.f3 ∧ inStat x.f4 ∧ inStat x.f5 ∧ inStat x.f6
  · have ⟨s1, s2, s3, s4, s5⟩ := hs
    rw [inSt_i, inSt_i, inSt_i, inSt_i, inSt_i, decide_eq_true s1, decide_eq_true s2, decide_eq_true s3, decide_eq_true s4, decide_eq_true s5]
    simp only [Bool.and_true]
    refine Ev.pos hs (Ev.bind (implPath_ev _ h) ?_)
    cases okPath x.f0 with
    | false => simp only [Bool.false_and]; exact Ev.neg (by simp) (Ev.now _)
    | true =>
      refine Ev.pos (by trivial) (Ev.congr (fun k => ?_) (Ev.now _))
      congr 1
      by_cases h1 : x.f1.size ≤ 64
      · rw [decide_eq_true h1, decide_eq_true (by omega)]; rfl
      · rw [decide_eq_false h1, decide_eq_false (by omega)]; rfl
  · have : (okPath x.f0 && decide (x.f1.size ≤ 64) && inSt x.f2 && inSt x.f3 && inSt x.f4 && inSt x.f5 && inSt x.f6) = false := by
      cases e : (okPath x.f0 && decide (x.f1.size ≤ 64) && inSt x.f2 && inSt x.f3 && inSt x.f4 && inSt x.f5 && inSt x.f6) with
      | false => rfl
      | true =>
        simp only [Bool.and_eq_true, inSt_i, decide_eq_true_eq] at e
        exact absurd ⟨e.1.1.1.1.2, e.1.1.1.2, e.1.1.2, e.1.2, e.2⟩ hs
    rw [this]
    exact Ev.neg hs (Ev.now _)

theorem rdImp (l : List S53) (i : Nat) (h : i < l.length) : rd_T53 l i = l[i] := by simp [rd_T53, h]
def okAt (l : List S53) (i : Nat) : Bool := if i = 0 then true else Go.Op.bytesLess ((rd_T53 l ((i : Int) - 1)).f0.toList) ((rd_T53 l (i : Int)).f0.toList)
def okFrom (l : List S53) : Nat → Bool
  | 0 => true
  | d + 1 => okNode (rd_T53 l ((l.length - (d + 1) : Nat) : Int)) && okAt l (l.length - (d + 1)) && okFrom l d
theorem specSorted_l (l : List S53) (hl : l.length ≤ 1048576) (hs : ∀ x ∈ l, x.f0.size ≤ 1048576) (d : Nat) : ∀ (i : Nat), i + d = l.length → Ev (fun k => spec_l3Sorted.l0 k l i) (okFrom l d) := by
  induction d with
  | zero => intro i hi; exact Ev.step (fun k => by simp only [spec_l3Sorted.l0]; exact if_neg (by omega)) (Ev.now _)
  | succ d ih =>
    intro i hi
    obtain rfl : i = l.length - (d + 1) := by omega
    have hi2 : l.length - (d + 1) < l.length := by omega
    refine Ev.step (fun k => by simp only [spec_l3Sorted.l0]; rw [if_pos (by omega), if_pos (by omega)]) ?_
    simp only [okFrom]
    have hx : (rd_T53 l ((l.length - (d + 1) : Nat) : Int)).f0.size ≤ 1048576 := by rw [rdImp l _ hi2]; exact hs _ (List.getElem_mem _)
    refine Ev.bind (specNode_ev _ hx) ?_
    cases okNode (rd_T53 l ((l.length - (d + 1) : Nat) : Int)) with
    | false => simp only [Bool.false_and]; exact Ev.neg (by simp) (Ev.now _)
    | true =>
      simp only [Bool.true_and]
      refine Ev.pos (by trivial) ?_
      have hn := ih (l.length - (d + 1) + 1) (by omega)
      by_cases h0 : l.length - (d + 1) = 0
      · have : okAt l (l.length - (d + 1)) = true := by unfold okAt; rw [if_pos h0]
        rw [this, Bool.true_and]
        refine Ev.neg (by omega) (Ev.congr (fun k => ?_) hn)
        rw [w64 (by omega) (by omega)]; rfl
      · refine Ev.pos (by omega) (Ev.congr (fun k => by rw [w64 (by omega) (by omega), w64 (by omega) (by omega)]) ?_)
        refine Ev.pos (by omega) (Ev.pos (by omega) ?_)
        have : okAt l (l.length - (d + 1)) = Go.Op.bytesLess ((rd_T53 l (((l.length - (d + 1) : Nat) : Int) - 1)).f0.toList) ((rd_T53 l ((l.length - (d + 1) : Nat) : Int)).f0.toList) := by unfold okAt; rw [if_neg h0]
        rw [← this]
        cases okAt l (l.length - (d + 1)) with
        | false => simp only [Bool.false_and]; exact Ev.neg (by simp) (Ev.now _)
        | true => rw [Bool.true_and]; exact Ev.pos (by trivial) hn
theorem implSorted_l (l : List S53) (hl : l.length ≤ 1048576) (hs : ∀ x ∈ l, x.f0.size ≤ 1048576) (d : Nat) : ∀ (i : Nat), i + d = l.length → Ev (fun k => impl_nodesOk.l0 k l l (l.length : Int) i) (okFrom l d) := by
  induction d with
  | zero => intro i hi; exact Ev.step (fun k => by simp only [impl_nodesOk.l0]; exact if_neg (by omega)) (Ev.now _)
  | succ d ih =>
    intro i hi
    obtain rfl : i = l.length - (d + 1) := by omega
    have hi2 : l.length - (d + 1) < l.length := by omega
    refine Ev.step (fun k => by simp only [impl_nodesOk.l0]; rw [if_pos (by omega), if_pos (by omega), if_pos (by omega)]) ?_
    simp only [okFrom]
    have hx : (rd_T53 l ((l.length - (d + 1) : Nat) : Int)).f0.size ≤ 1048576 := by rw [rdImp l _ hi2]; exact hs _ (List.getElem_mem _)
    refine Ev.bind (implNode_ev _ hx) ?_
    cases okNode (rd_T53 l ((l.length - (d + 1) : Nat) : Int)) with
    | false => simp only [Bool.false_and]; exact Ev.neg (by simp) (Ev.now _)
    | true =>
      simp only [Bool.true_and]
      refine Ev.pos (by trivial) ?_
      have hn := ih (l.length - (d + 1) + 1) (by omega)
      by_cases h0 : l.length - (d + 1) = 0
      · have : okAt l (l.length - (d + 1)) = true := by unfold okAt; rw [if_pos h0]
        rw [this, Bool.true_and]
        refine Ev.neg (by omega) (Ev.congr (fun k => ?_) hn)
        rw [w64 (by omega) (by omega)]; rfl
      · refine Ev.pos (by omega) (Ev.congr (fun k => by rw [w64 (by omega) (by omega), w64 (by omega) (by omega)]) ?_)
        refine Ev.pos (by omega) (Ev.pos (by omega) ?_)
        have : okAt l (l.length - (d + 1)) = Go.Op.bytesLess ((rd_T53 l (((l.length - (d + 1) : Nat) : Int) - 1)).f0.toList) ((rd_T53 l ((l.length - (d + 1) : Nat) : Int)).f0.toList) := by unfold okAt; rw [if_neg h0]
        rw [← this]
        cases okAt l (l.length - (d + 1)) with
        | false => simp only [Bool.false_and]; exact Ev.neg (by simp) (Ev.now _)
        | true => rw [Bool.true_and]; exact Ev.pos (by trivial) hn
def okTree (l : List S53) : Bool := decide (l.length ≤ 1000) && okFrom l l.length
theorem specTree_ev (l : List S53) (hl : l.length ≤ 1048576) (hs : ∀ x ∈ l, x.f0.size ≤ 1048576) : Ev (fun k => spec_ValidTree.f k l) (okTree l) := by
  simp only [spec_ValidTree.f, okTree]
  by_cases h : l.length ≤ 1000
  · rw [decide_eq_true h, Bool.true_and]
    refine Ev.pos (by omega) (Ev.bind ?_ (Ev.now _))
    simp only [spec_l3Sorted.f]
    exact specSorted_l l hl hs l.length 0 (by omega)
  · rw [decide_eq_false h, Bool.false_and]; exact Ev.neg (by omega) (Ev.now _)
theorem implTree_ev (l : List S53) (hl : l.length ≤ 1048576) (hs : ∀ x ∈ l, x.f0.size ≤ 1048576) : Ev (fun k => impl_ValidTree.f k l) (okTree l) := by
  simp only [impl_ValidTree.f, okTree]
  by_cases h : l.length ≤ 1000
  · rw [decide_eq_true h, Bool.true_and]
    refine Ev.pos (by omega) (Ev.bind ?_ (Ev.now _))
    simp only [impl_nodesOk.f]
    exact implSorted_l l hl hs l.length 0 (by omega)
  · rw [decide_eq_false h, Bool.false_and]; exact Ev.neg (by omega) (Ev.now _)

theorem Ex.step {α : Type} {g f : Nat → Option α} {Q : α → Prop} (hs : ∀ k, g (k + 1) = f k) (h : ∃ r, Q r ∧ Ev f r) : ∃ r, Q r ∧ Ev g r := by obtain ⟨r, q, e⟩ := h; exact ⟨r, q, Ev.step hs e⟩
theorem Ex.bind {α β : Type} {g : Nat → Option α} {f : Nat → α → Option β} {a : α} {Q : β → Prop} (h : Ev g a) (k : ∃ r, Q r ∧ Ev (fun n => f n a) r) : ∃ r, Q r ∧ Ev (fun n => (g n).bind (f n)) r := by obtain ⟨r, q, e⟩ := k; exact ⟨r, q, Ev.bind h e⟩
theorem Ex.pos {α : Type} {c : Prop} [Decidable c] {f g : Nat → Option α} {Q : α → Prop} (hc : c) (h : ∃ r, Q r ∧ Ev f r) : ∃ r, Q r ∧ Ev (fun n => if c then f n else g n) r := by obtain ⟨r, q, e⟩ := h; exact ⟨r, q, Ev.pos hc e⟩
theorem Ex.neg {α : Type} {c : Prop} [Decidable c] {f g : Nat → Option α} {Q : α → Prop} (hc : ¬c) (h : ∃ r, Q r ∧ Ev g r) : ∃ r, Q r ∧ Ev (fun n => if c then f n else g n) r := by obtain ⟨r, q, e⟩ := h; exact ⟨r, q, Ev.neg hc e⟩
theorem Ex.set {α β : Type} {x : List α} {j : Nat} {v : α} {f : Nat → List α → Option β} {Q : β → Prop} (h : ∀ y : List α, y.length = x.length → ∃ r, Q r ∧ Ev (fun n => f n y) r) : ∃ r, Q r ∧ Ev (fun n => (some (x.set j v)).bind (f n)) r := by obtain ⟨r, q, e⟩ := h (x.set j v) (by simp); exact ⟨r, q, Ev.bindS rfl e⟩
theorem Ex.now {α : Type} {Q : α → Prop} (r : α) (h : Q r) : ∃ r, Q r ∧ Ev (fun _ => some r) r := ⟨r, h, Ev.now r⟩
theorem nums_size1 (x : Int) : (strOfNums [x]).size = 1 := rfl
theorem markText_l (n : Nat) : ∀ (a : Nat) (x : ByteArray), a < 10 ^ n → n ≤ 1000 → a ≤ 4611686018427387904 → x.size + n ≤ 1000000 → ∃ r : ByteArray, True ∧ Ev (fun k => laws_markText.l0 k a x) r := by
  induction n with
  | zero =>
    intro a x ha _ _ hx
    obtain rfl : a = 0 := by simpa using ha
    exact Ex.step (fun k => by simp only [laws_markText.l0]; rw [if_neg (by omega), if_pos (by omega)]) ⟨_, trivial, Ev.now _⟩
  | succ n ih =>
    intro a x ha hn ha2 hx
    by_cases h0 : a = 0
    · subst h0
      exact Ex.step (fun k => by simp only [laws_markText.l0]; rw [if_neg (by omega), if_pos (by omega)]) ⟨_, trivial, Ev.now _⟩
    · refine Ex.step (fun k => by simp only [laws_markText.l0, Option.bind_some]; rw [if_pos (by omega), show Int.tdiv (a : Int) 10 = ((a / 10 : Nat) : Int) from rfl, w64 (x := ((a / 10 : Nat) : Int)) (by omega) (by omega)]) ?_
      refine Ex.pos (by rw [nums_size1]; omega) ?_
      refine ih (a / 10) _ (by rw [Nat.pow_succ] at ha; omega) (by omega) (by omega) ?_
      rw [ByteArray.size_append, nums_size1]; omega
theorem markText_ev (a : Int) (h0 : 0 ≤ a) (h1 : a ≤ 4611686018427387904) : ∃ r : ByteArray, True ∧ Ev (fun k => laws_markText.f k a) r := by
  simp only [laws_markText.f]
  by_cases h : a ≤ 0
  · exact Ex.pos h ⟨_, trivial, Ev.now _⟩
  · refine Ex.neg h ?_
    obtain ⟨n, rfl⟩ := Int.eq_ofNat_of_zero_le h0
    refine markText_l 19 n _ (by omega) (by omega) (by omega) ?_
    show 0 + 19 ≤ _
    omega
theorem bless : ∀ (x y : List UInt8), Go.Op.bytesLess x y = true → x < y
  | [], [], h => by simp [Go.Op.bytesLess] at h
  | _ :: _, [], h => by simp [Go.Op.bytesLess] at h
  | [], _ :: _, _ => by simp
  | a :: x, b :: y, h => by
    simp only [Go.Op.bytesLess, Bool.or_eq_true, Bool.and_eq_true, decide_eq_true_eq, beq_iff_eq] at h
    rw [List.cons_lt_cons_iff]
    rcases h with h | ⟨h, h2⟩
    · exact Or.inl h
    · exact Or.inr ⟨h, bless x y h2⟩
def jn (l : List (List UInt8)) : List UInt8 := l.flatMap (fun x => 47 :: x)
theorem spl_jn (t : List UInt8) : jn (spl t) = 47 :: t := by
  induction t with
  | nil => rfl
  | cons b l ih =>
    unfold spl
    split
    · next h => subst h; simp [jn] at ih ⊢; exact ih
    · obtain ⟨h, t, e⟩ := spl_ne l
      rw [e] at ih ⊢
      simp [jn, consHead] at ih ⊢; exact ih
theorem spl_no (t : List UInt8) : ∀ x ∈ spl t, (47 : UInt8) ∉ x := by
  induction t with
  | nil => intro x hx; simp [spl] at hx; subst hx; simp
  | cons b l ih =>
    intro x hx
    unfold spl at hx
    split at hx
    · rcases List.mem_cons.mp hx with rfl | hx
      · simp
      · exact ih x hx
    · next hb =>
      obtain ⟨h, t, e⟩ := spl_ne l
      rw [e] at hx ih
      simp only [consHead] at hx
      rcases List.mem_cons.mp hx with rfl | hx
      · have := ih h (by simp)
        simp [this, Ne.symm hb]
      · exact ih x (by simp [hx])
theorem jn_app (a b : List (List UInt8)) : jn (a ++ b) = jn a ++ jn b := by simp [jn]
def nm (s : ByteArray) : List ByteArray := names (s.extract 1 s.size)
def bs (l : List ByteArray) : List (List UInt8) := l.map fun x => x.data.toList
def pre (s : ByteArray) : List UInt8 := jn (bs (nm s).dropLast)
def lst (s : ByteArray) : ByteArray := (nm s).getLast?.getD ByteArray.empty
def par (s : ByteArray) : List UInt8 := if pre s = [] then [47] else pre s
def parB (s : ByteArray) : ByteArray := ⟨(par s).toArray⟩
theorem nm_ne (s : ByteArray) : nm s ≠ [] := by
  unfold nm names
  obtain ⟨h, t, e⟩ := spl_ne (s.extract 1 s.size).data.toList
  rw [e]; simp
theorem nm_split (s : ByteArray) : nm s = (nm s).dropLast ++ [lst s] := by
  have h := nm_ne s
  unfold lst
  rw [List.getLast?_eq_some_getLast h]
  exact (List.dropLast_concat_getLast h).symm
theorem nm_jn (s : ByteArray) (h : s.data.toList.head? = some 47) : jn (bs (nm s)) = s.data.toList := by
  unfold bs nm
  rw [names_data, spl_jn, Go.Lib.extract_to_end]
  cases e : s.data.toList with
  | nil => rw [e] at h; cases h
  | cons b t => rw [e] at h; simp at h; subst h; rfl
theorem split_e (s : ByteArray) (h : s.data.toList.head? = some 47) : s.data.toList = pre s ++ 47 :: (lst s).data.toList ∧ (47 : UInt8) ∉ (lst s).data.toList := by
  constructor
  · rw [← nm_jn s h]
    conv => lhs; rw [nm_split s]
    unfold pre bs
    rw [List.map_append, jn_app]
    simp [jn]
  · have h1 : lst s ∈ nm s := by rw [nm_split s]; simp
    have h2 : (lst s).data.toList ∈ (names (s.extract 1 s.size)).map (fun s => s.data.toList) := List.mem_map.mpr ⟨_, h1, rfl⟩
    rw [names_data] at h2
    exact spl_no _ _ h2
theorem lastIx_l (s : ByteArray) (hs : s.size ≤ 1048576) (A L : List UInt8) (h : s.data.toList = A ++ 47 :: L) (hn : (47 : UInt8) ∉ L) (d : Nat) : ∀ j : Nat, A.length + d = j → j < s.size → Ev (fun k => bytealg_LastIndexByteString.l0 k s 47 j) (A.length : Int) := by
  induction d with
  | zero =>
    intro j hj hlt
    obtain ⟨b, hb, eb⟩ := bt_list s j hlt
    rw [h, ← hj] at hb
    simp at hb
    refine Ev.step (fun k => by simp only [bytealg_LastIndexByteString.l0]; rw [if_pos (by omega), if_pos (by omega), if_pos (by omega), eb, if_pos (by rw [← hb]; rfl)]) ?_
    rw [← hj]; exact Ev.now _
  | succ d ih =>
    intro j hj hlt
    obtain ⟨b, hb, eb⟩ := bt_list s j hlt
    rw [h, ← hj, List.getElem?_append_right (by omega), show A.length + (d + 1) - A.length = d + 1 by omega, List.getElem?_cons_succ] at hb
    have hm : b ∈ L := List.mem_of_getElem? hb
    have hne : ¬ ((b.toNat : Int) = 47) := fun e => hn (by
      have : b.toNat = 47 := by omega
      have e2 : b = 47 := UInt8.toNat_inj.mp (by rw [this]; rfl)
      rw [← e2]; exact hm)
    refine Ev.step (fun k => by simp only [bytealg_LastIndexByteString.l0]; rw [if_pos (by omega), if_pos (by omega), if_pos (by omega), eb, if_neg hne, w64 (by omega) (by omega), show (j : Int) - 1 = ((j - 1 : Nat) : Int) by omega]) ?_
    exact ih (j - 1) (by omega) (by omega)
theorem sz_split (s : ByteArray) (h : s.data.toList.head? = some 47) : s.size = (pre s).length + (lst s).size + 1 := by
  obtain ⟨e, hn⟩ := split_e s h
  have e2 := congrArg List.length e
  rw [List.length_append, List.length_cons, ← Go.Lib.size_eq, ← Go.Lib.size_eq] at e2
  omega
theorem lastIx_ev (s : ByteArray) (hs : s.size ≤ 1048576) (h : s.data.toList.head? = some 47) : Ev (fun k => strings_LastIndexByte.f k s 47) ((pre s).length : Int) := by
  obtain ⟨e, hn⟩ := split_e s h
  have hsz := sz_split s h
  simp only [strings_LastIndexByte.f, bytealg_LastIndexByteString.f]
  rw [w64 (by omega) (by omega), show (s.size : Int) - 1 = ((s.size - 1 : Nat) : Int) by omega]
  exact Ev.bind (lastIx_l s hs _ _ e hn (s.size - 1 - (pre s).length) (s.size - 1) (by omega) (by omega)) (Ev.now _)
theorem implParent_ev (s : ByteArray) (hs : s.size ≤ 1048576) (h : s.data.toList.head? = some 47) (hne : s.data.toList ≠ [47]) : Ev (fun k => impl_parentOf.f k s) (parB s, true) := by
  have hsz := sz_split s h
  obtain ⟨e, hn⟩ := split_e s h
  simp only [impl_parentOf.f]
  rw [Go.Lib.toList_data]
  refine Ev.neg hne (Ev.bind (lastIx_ev s hs h) ?_)
  have em : mx ((pre s).length : Int) 1 = ((max (pre s).length 1 : Nat) : Int) := by unfold mx; split <;> omega
  rw [em]
  refine Ev.pos (by omega) (Ev.pos (by omega) ?_)
  have ee : s.extract 0 ((max (pre s).length 1 : Nat) : Int).toNat = parB s := by
   apply data_inj
   rw [Int.toNat_natCast, Go.Lib.extract_data, List.drop_zero, Nat.sub_zero]
   unfold parB par
   by_cases hp : pre s = []
   · rw [if_pos hp, e, hp]; rfl
   · have : 1 ≤ (pre s).length := by
       have := List.length_pos_iff.mpr hp; omega
     rw [if_neg hp, e, show max (pre s).length 1 = (pre s).length by omega, List.take_left']; rfl
  exact Ev.congr (fun k => by rw [ee]) (Ev.now _)
theorem specParent_l (s : ByteArray) (hs : s.size ≤ 1048576) (h : s.data.toList.head? = some 47) (d : Nat) : ∀ (i : Nat) (x : ByteArray), i + d + 1 = (nm s).length → x.data.toList = jn (bs ((nm s).take i)) → Ev (fun k => spec_l3Parent.l0 k (nm s) x i) (parB s) := by
  have hln := names_len (s.extract 1 s.size)
  rw [ext_size1] at hln
  have hln2 : (nm s).length ≤ s.size - 1 + 1 := hln
  induction d with
  | zero =>
    intro i x hi hx
    have e : x.data.toList = pre s := by rw [hx]; unfold pre; rw [List.dropLast_eq_take, show (nm s).length - 1 = i by omega]
    refine Ev.step (fun k => by simp only [spec_l3Parent.l0]; rw [w64 (by omega) (by omega), if_neg (by omega), Go.Lib.toList_data, e]) ?_
    by_cases hp : pre s = []
    · refine Ev.pos hp (Ev.congr (fun k => ?_) (Ev.now _))
      exact congrArg some (data_inj (by unfold parB par; rw [if_pos hp]))
    · refine Ev.neg hp (Ev.congr (fun k => ?_) (Ev.now _))
      exact congrArg some (data_inj (by unfold parB par; rw [if_neg hp, e]))
  | succ d ih =>
    intro i x hi hx
    have hlt : i < (nm s).length := by omega
    have e1 : bs ((nm s).take (i + 1)) = bs ((nm s).take i) ++ [(nm s)[i].data.toList] := by unfold bs; rw [List.take_add_one, List.map_append]; simp [hlt]
    have e2 : jn (bs ((nm s).take (i + 1))) = jn (bs ((nm s).take i)) ++ 47 :: (nm s)[i].data.toList := by rw [e1, jn_app]; simp [jn]
    have hb : (jn (bs ((nm s).take (i + 1)))).length ≤ s.size := by
      rw [Go.Lib.size_eq, ← nm_jn s h]
      have : bs (nm s) = bs ((nm s).take (i + 1)) ++ bs ((nm s).drop (i + 1)) := by unfold bs; rw [← List.map_append, List.take_append_drop]
      rw [this, jn_app, List.length_append]; omega
    rw [e2, List.length_append, ← hx, List.length_cons, ← Go.Lib.size_eq, ← Go.Lib.size_eq] at hb
    refine Ev.step (fun k => by simp only [spec_l3Parent.l0]; rw [w64 (by omega) (by omega), if_pos (by omega), if_pos (by omega), if_pos (by omega), rdN (nm s) i hlt, if_pos (by omega), if_pos (by rw [ByteArray.size_append, show (⟨#[47]⟩ : ByteArray).size = 1 from rfl]; omega)]) ?_
    refine ih (i + 1) _ (by omega) ?_
    rw [e2, ← hx]
    simp
theorem specParent_ev (s : ByteArray) (hs : s.size ≤ 1048576) (h : s.data.toList.head? = some 47) : Ev (fun k => spec_l3Parent.f k s) (parB s) := by
  have hsz := sz_split s h
  have := List.length_pos_iff.mpr (nm_ne s)
  simp only [spec_l3Parent.f]
  exact Ev.bind (specNames_ev s (by omega) hs) (specParent_l s hs h ((nm s).length - 1) 0 _ (by omega) (by simp [bs, jn]))
theorem specLast_ev (s : ByteArray) (hs : s.size ≤ 1048576) (h : s.data.toList.head? = some 47) : Ev (fun k => spec_l3Last.f k s) (lst s) := by
  have hsz := sz_split s h
  have hp := List.length_pos_iff.mpr (nm_ne s)
  have hln := names_len (s.extract 1 s.size)
  rw [ext_size1] at hln
  have hln2 : (nm s).length ≤ s.size - 1 + 1 := hln
  simp only [spec_l3Last.f]
  refine Ev.bind (specNames_ev s (by omega) hs) ?_
  show Ev (fun k => if 0 ≤ (wrap64 (((nm s).length : Int) - 1)) then (if (wrap64 (((nm s).length : Int) - 1)) < ((nm s).length : Int) then (some (rdOf ByteArray.empty (nm s) (wrap64 (((nm s).length : Int) - 1)))) else (none)) else (none)) (lst s)
  rw [w64 (by omega) (by omega), show ((nm s).length : Int) - 1 = (((nm s).length - 1 : Nat) : Int) by omega]
  refine Ev.pos (by omega) (Ev.pos (by omega) (Ev.congr (fun k => ?_) (Ev.now _)))
  rw [rdN _ _ (by omega)]
  unfold lst
  rw [List.getLast?_eq_some_getLast (nm_ne s), List.getLast_eq_getElem]; rfl
def kid (a : ByteArray) (x : S53) : Bool := decide (x.f0.data.toList ≠ [47]) && decide (par x.f0 = a.data.toList)
theorem parB_l (s : ByteArray) : (parB s).toList = par s := by rw [Go.Lib.toList_data]; rfl
theorem specBelow_l (l : List S53) (a : ByteArray) (hl : l.length ≤ 1048576) (hs : ∀ x ∈ l, x.f0.size ≤ 1048576 ∧ x.f0.data.toList.head? = some 47) (d : Nat) : ∀ (i : Nat) (acc : List S53), i + d = l.length → acc.length ≤ i → Ev (fun k => spec_l3Below.l0 k l a acc i) (acc ++ (l.drop i).filter (kid a)) := by
  induction d with
  | zero =>
    intro i acc hi ha
    rw [List.drop_of_length_le (by omega), List.filter_nil, List.append_nil]
    exact Ev.step (fun k => by simp only [spec_l3Below.l0]; exact if_neg (by omega)) (Ev.now _)
  | succ d ih =>
    intro i acc hi ha
    have hlt : i < l.length := by omega
    obtain ⟨h1, h2⟩ := hs _ (List.getElem_mem hlt)
    refine Ev.step (fun k => by simp only [spec_l3Below.l0]; rw [if_pos (by omega), if_pos (by omega), rdImp l i hlt, w64 (by omega) (by omega), Go.Lib.toList_data, Go.Lib.toList_data]) ?_
    rw [List.drop_eq_getElem_cons hlt]
    by_cases h47 : l[i].f0.data.toList = [47]
    · rw [List.filter_cons_of_neg (by simp [kid, h47])]
      exact Ev.pos h47 (ih (i + 1) acc (by omega) (by omega))
    refine Ev.neg h47 (Ev.bind (specParent_ev _ h1 h2) ?_)
    rw [parB_l]
    by_cases hp : par l[i].f0 = a.data.toList
    · rw [List.filter_cons_of_pos (by simp [kid, h47, hp])]
      refine Ev.pos hp (Ev.pos (by omega) ?_)
      have := ih (i + 1) (acc ++ [l[i]]) (by omega) (by simp; omega)
      rw [List.append_assoc] at this
      exact this
    · rw [List.filter_cons_of_neg (by simp [kid, hp])]
      exact Ev.neg hp (ih (i + 1) acc (by omega) (by omega))
theorem specKids_l (l : List S53) (hl : l.length ≤ 1048576) (hs : ∀ x ∈ l, x.f0.size ≤ 1048576 ∧ x.f0.data.toList.head? = some 47) (d : Nat) : ∀ (i : Nat) (acc : List ByteArray), i + d = l.length → acc.length ≤ i → Ev (fun k => spec_Children.l0 k acc l i) (acc ++ (l.drop i).map (fun x => lst x.f0)) := by
  induction d with
  | zero =>
    intro i acc hi ha
    rw [List.drop_of_length_le (by omega), List.map_nil, List.append_nil]
    exact Ev.step (fun k => by simp only [spec_Children.l0]; exact if_neg (by omega)) (Ev.now _)
  | succ d ih =>
    intro i acc hi ha
    have hlt : i < l.length := by omega
    obtain ⟨h1, h2⟩ := hs _ (List.getElem_mem hlt)
    refine Ev.step (fun k => by simp only [spec_Children.l0]; rw [if_pos (by omega), if_pos (by omega), rdImp l i hlt, w64 (by omega) (by omega)]) ?_
    rw [List.drop_eq_getElem_cons hlt, List.map_cons]
    refine Ev.bind (specLast_ev _ h1 h2) (Ev.pos (by omega) ?_)
    have := ih (i + 1) (acc ++ [lst l[i].f0]) (by omega) (by simp; omega)
    rw [List.append_assoc] at this
    exact this
theorem implKids_l (l : List S53) (a : ByteArray) (hl : l.length ≤ 1048576) (hs : ∀ x ∈ l, x.f0.size ≤ 1048576 ∧ x.f0.data.toList.head? = some 47) (d : Nat) : ∀ (i : Nat) (acc : List ByteArray), i + d = l.length → acc.length ≤ i → Ev (fun k => impl_childrenOf.l0 k a acc l (l.length : Int) i) (acc ++ ((l.drop i).filter (kid a)).map (fun x => lst x.f0)) := by
  induction d with
  | zero =>
    intro i acc hi ha
    rw [List.drop_of_length_le (by omega), List.filter_nil, List.map_nil, List.append_nil]
    exact Ev.step (fun k => by simp only [impl_childrenOf.l0]; exact if_neg (by omega)) (Ev.now _)
  | succ d ih =>
    intro i acc hi ha
    have hlt : i < l.length := by omega
    obtain ⟨h1, h2⟩ := hs _ (List.getElem_mem hlt)
    refine Ev.step (fun k => by simp only [impl_childrenOf.l0]; rw [if_pos (by omega), if_pos (by omega), if_pos (by omega), rdImp l i hlt, w64 (x := (i : Int) + 1) (by omega) (by omega)]) ?_
    rw [List.drop_eq_getElem_cons hlt]
    by_cases h47 : l[i].f0.data.toList = [47]
    · rw [List.filter_cons_of_neg (by simp [kid, h47])]
      have hpo : ∀ k, impl_parentOf.f k l[i].f0 = some ((⟨#[]⟩ : ByteArray), false) := fun k => by simp only [impl_parentOf.f]; rw [Go.Lib.toList_data]; exact if_pos h47
      exact Ev.bind (Ev.congr (fun k => hpo k) (Ev.now _)) (Ev.neg (by simp) (ih (i + 1) acc (by omega) (by omega)))
    refine Ev.bind (implParent_ev _ h1 h2 h47) (Ev.pos (by trivial) ?_)
    show Ev (fun k => if (parB l[i].f0).toList = a.toList then _ else _) _
    rw [parB_l, Go.Lib.toList_data]
    by_cases hp : par l[i].f0 = a.data.toList
    · rw [List.filter_cons_of_pos (by simp [kid, h47, hp]), List.map_cons]
      have hsz := sz_split _ h2
      refine Ev.pos hp (Ev.bind (lastIx_ev _ h1 h2) ?_)
      rw [w64 (by omega) (by omega), show ((pre l[i].f0).length : Int) + 1 = (((pre l[i].f0).length + 1 : Nat) : Int) by omega]
      refine Ev.pos (by omega) (Ev.pos (by omega) (Ev.pos (by omega) ?_))
      have el : l[i].f0.extract (((pre l[i].f0).length + 1 : Nat) : Int).toNat l[i].f0.size = lst l[i].f0 := by
        apply data_inj
        rw [Int.toNat_natCast, Go.Lib.extract_to_end]
        conv => lhs; rw [(split_e _ h2).1]
        rw [← List.drop_drop, List.drop_left]; rfl
      rw [el]
      have := ih (i + 1) (acc ++ [lst l[i].f0]) (by omega) (by simp; omega)
      rw [List.append_assoc] at this
      exact this
    · rw [List.filter_cons_of_neg (by simp [kid, hp])]
      exact Ev.neg hp (ih (i + 1) acc (by omega) (by omega))
theorem pre_lt (A : List UInt8) {x y : List UInt8} (h : A ++ x < A ++ y) : x < y := by
  induction A with
  | nil => exact h
  | cons a A ih =>
    rw [List.cons_append, List.cons_append, List.cons_lt_cons_iff] at h
    rcases h with h | h
    · exact absurd h (UInt8.lt_irrefl _)
    · exact ih h.2
theorem okFrom_all (l : List S53) (d : Nat) : d ≤ l.length → okFrom l d = true → ∀ j, l.length - d ≤ j → j < l.length → okNode (rd_T53 l (j : Int)) = true ∧ okAt l j = true := by
  induction d with
  | zero => intro _ _ j h1 h2; omega
  | succ d ih =>
    intro hd h j h1 h2
    simp only [okFrom, Bool.and_eq_true] at h
    by_cases hj : j = l.length - (d + 1)
    · subst hj; exact h.1
    · exact ih (by omega) h.2 j (by omega) h2
theorem okTree_all (l : List S53) (h : okTree l = true) : (∀ x ∈ l, okPath x.f0 = true) ∧ l.Pairwise (fun x y => x.f0.data.toList < y.f0.data.toList) := by
  simp only [okTree, Bool.and_eq_true] at h
  have h2 := okFrom_all l l.length (Nat.le_refl _) h.2
  refine ⟨fun x hx => ?_, ?_⟩
  · obtain ⟨j, hj, rfl⟩ := List.mem_iff_getElem.mp hx
    have := (h2 j (by omega) hj).1
    rw [rdImp l j hj] at this
    simp only [okNode, Bool.and_eq_true] at this
    exact this.1.1.1.1.1.1
  · have st : ∀ j (h1 : j + 1 < l.length), l[j].f0.data.toList < l[j + 1].f0.data.toList := by
      intro j h1
      have := (h2 (j + 1) (by omega) h1).2
      unfold okAt at this
      rw [if_neg (by omega), show ((j + 1 : Nat) : Int) - 1 = ((j : Nat) : Int) by omega, rdImp l j (by omega), rdImp l (j + 1) h1, Go.Lib.toList_data, Go.Lib.toList_data] at this
      exact bless _ _ this
    rw [List.pairwise_iff_getElem]
    have : ∀ d i (h1 : i + d + 1 < l.length), l[i].f0.data.toList < l[i + d + 1].f0.data.toList := by
      intro d
      induction d with
      | zero => intro i h1; exact st i h1
      | succ d ih => intro i h1; exact List.lt_trans (ih i (by omega)) (st (i + d + 1) h1)
    intro i j hi hj hij
    obtain ⟨d, rfl⟩ : ∃ d, j = i + d + 1 := ⟨j - i - 1, by omega⟩
    exact this d i hj
theorem okPath_head (s : ByteArray) (h : okPath s = true) : s.data.toList.head? = some 47 := by
  unfold okPath at h
  split at h
  · next e => rw [e]; rfl
  · simp only [Bool.and_eq_true, decide_eq_true_eq] at h; exact h.1.1.2
theorem pre_ne47 (s : ByteArray) (h : okPath s = true) (hne : s.data.toList ≠ [47]) : pre s ≠ [47] := by
  unfold okPath at h
  rw [if_neg hne] at h
  simp only [Bool.and_eq_true, decide_eq_true_eq] at h
  have ha := h.2
  rw [List.all_eq_true] at ha
  intro e
  have hm : ∀ x ∈ (nm s).dropLast, 1 ≤ x.size := by
    intro x hx
    have := ha x (List.dropLast_sublist _ |>.mem hx)
    simp only [okName, Bool.and_eq_true, decide_eq_true_eq] at this
    exact this.1.2
  unfold pre at e
  cases hd : (nm s).dropLast with
  | nil => rw [hd] at e; simp [bs, jn] at e
  | cons y ys =>
    have h1 := hm y (by rw [hd]; simp)
    rw [hd] at e
    have e2 := congrArg List.length e
    simp only [bs, jn, List.map_cons, List.flatMap_cons, List.length_append, List.length_cons, List.length_nil] at e2
    rw [Go.Lib.size_eq] at h1
    omega
theorem kids_sorted (l : List S53) (a : ByteArray) (h : okTree l = true) : sortS ((l.filter (kid a)).map (fun x => lst x.f0)) = (l.filter (kid a)).map (fun x => lst x.f0) := by
  obtain ⟨h1, h2⟩ := okTree_all l h
  have h3 : (l.filter (kid a)).Pairwise (fun x y => (lst x.f0).data.toList < (lst y.f0).data.toList) := by
    have h4 : (l.filter (kid a)).Pairwise (fun x y => x.f0.data.toList < y.f0.data.toList) := h2.filter _
    refine List.Pairwise.imp_of_mem ?_ h4
    intro x y hx hy hxy
    rw [List.mem_filter] at hx hy
    simp only [kid, Bool.and_eq_true, decide_eq_true_eq] at hx hy
    have ex := (split_e _ (okPath_head _ (h1 x hx.1))).1
    have ey := (split_e _ (okPath_head _ (h1 y hy.1))).1
    have nx := pre_ne47 _ (h1 x hx.1) hx.2.1
    have ny := pre_ne47 _ (h1 y hy.1) hy.2.1
    have ep : par x.f0 = par y.f0 := by rw [hx.2.2, hy.2.2]
    have ep2 : pre x.f0 = pre y.f0 := by
      unfold par at ep
      split at ep <;> split at ep
      · next p q => rw [p, q]
      · exact absurd ep.symm ny
      · exact absurd ep nx
      · exact ep
    rw [ex, ey, ep2] at hxy
    have := pre_lt _ hxy
    rw [List.cons_lt_cons_iff] at this
    rcases this with h | h
    · exact absurd h (UInt8.lt_irrefl _)
    · exact h.2
  unfold sortS
  rw [List.mergeSort_of_pairwise]
  · rw [List.map_map, List.map_map]
    apply List.map_congr_left
    intro x hx
    exact data_inj rfl
  · rw [List.map_map, List.pairwise_map]
    refine h3.imp ?_
    intro x y hxy
    exact decide_eq_true (List.le_of_lt hxy)
def kidsOf (l : List S53) (a : ByteArray) : List ByteArray := if okTree l && okPath a then (l.filter (kid a)).map (fun x => lst x.f0) else []
theorem kids_len (l : List S53) (a : ByteArray) : (kidsOf l a).length ≤ l.length := by
  unfold kidsOf
  split
  · rw [List.length_map]; exact List.length_filter_le _ _
  · simp
theorem specChildren_ev (l : List S53) (a : ByteArray) (hl : l.length ≤ 1048576) (hs : ∀ x ∈ l, x.f0.size ≤ 1048576) (ha : a.size ≤ 1048576) : Ev (fun k => spec_Children.f k l a) (kidsOf l a) := by
  simp only [spec_Children.f]
  refine Ev.bindS rfl (Ev.bind (specTree_ev l hl hs) ?_)
  unfold kidsOf
  cases ht : okTree l with
  | false =>
    refine Ev.neg (by simp) (Ev.step (fun k => by simp only [spec_Children.j0]; exact if_pos (by trivial)) (Ev.now _))
  | true =>
    have h1 := (okTree_all l ht).1
    refine Ev.pos (by trivial) (Ev.bind (specPath_ev a ha) ?_)
    cases okPath a with
    | false => exact Ev.step (fun k => by simp only [spec_Children.j0]; exact if_pos (by trivial)) (Ev.now _)
    | true =>
      refine Ev.step (fun k => by simp only [spec_Children.j0]; exact if_neg (by simp)) ?_
      have hh : ∀ x ∈ l, x.f0.size ≤ 1048576 ∧ x.f0.data.toList.head? = some 47 := fun x hx => ⟨hs x hx, okPath_head _ (h1 x hx)⟩
      simp only [spec_l3Below.f]
      refine Ev.bind (specBelow_l l a hl hh l.length 0 [] (by omega) (by simp)) ?_
      rw [List.nil_append, List.drop_zero]
      have hf := List.length_filter_le (kid a) l
      have := specKids_l (l.filter (kid a)) (by omega) (fun x hx => hh x (List.mem_filter.mp hx).1) _ 0 [] (by rw [Nat.zero_add]) (by simp)
      rw [List.nil_append, List.drop_zero] at this
      exact this
theorem implChildren_ev (l : List S53) (a : ByteArray) (hl : l.length ≤ 1048576) (hs : ∀ x ∈ l, x.f0.size ≤ 1048576) (ha : a.size ≤ 1048576) : Ev (fun k => impl_Children.f k l a) (kidsOf l a) := by
  simp only [impl_Children.f]
  refine Ev.bind (implTree_ev l hl hs) ?_
  unfold kidsOf
  cases ht : okTree l with
  | false =>
    refine Ev.neg (by simp) (Ev.step (fun k => by simp only [impl_Children.j0]; exact if_pos (by trivial)) (Ev.now _))
  | true =>
    have h1 := (okTree_all l ht).1
    refine Ev.pos (by trivial) (Ev.bind (implPath_ev a ha) ?_)
    cases okPath a with
    | false => exact Ev.step (fun k => by simp only [impl_Children.j0]; exact if_pos (by trivial)) (Ev.now _)
    | true =>
      refine Ev.step (fun k => by simp only [impl_Children.j0]; exact if_neg (by simp)) ?_
      have hh : ∀ x ∈ l, x.f0.size ≤ 1048576 ∧ x.f0.data.toList.head? = some 47 := fun x hx => ⟨hs x hx, okPath_head _ (h1 x hx)⟩
      simp only [impl_childrenOf.f]
      refine Ev.bind (implKids_l l a hl hh l.length 0 [] (by omega) (by simp)) ?_
      rw [List.nil_append, List.drop_zero]
      have hf := List.length_filter_le (kid a) l
      have e : slices_Sort_string_string.f ((l.filter (kid a)).map (fun x => lst x.f0)) = some ((l.filter (kid a)).map (fun x => lst x.f0)) := by
        unfold slices_Sort_string_string.f
        rw [if_pos (by rw [List.length_map]; omega), kids_sorted l a ht]
      exact Ev.bindS e (Ev.now _)
theorem eqNode_e (x : S53) : laws_eqNode.f x.f0 x.f1 x.f2 x.f3 x.f4 x.f5 x.f6 x.f0 x.f1 x.f2 x.f3 x.f4 x.f5 x.f6 = some true := by
  simp [laws_eqNode.f]
def cvN (x : S100) : S53 := ⟨x.f0, x.f1, x.f2, x.f3, x.f4, x.f5, x.f6⟩
theorem szNode_e (x : S100) (a : Int) (h0 : x.f0.size ≤ 9223372036854775807) (h1 : x.f1.size ≤ 9223372036854775807) (ha : 0 ≤ a) (ha2 : a ≤ 281474976710656) : ∃ r, laws_szNode.f x.f0 x.f1 x.f2 x.f3 x.f4 x.f5 x.f6 a = some r ∧ (r = -1 ∨ 0 ≤ r ∧ r + x.f0.size + x.f1.size = a) := by
  simp only [laws_szNode.f]
  rw [w64 (x := a - (x.f0.size : Int)) (by omega) (by omega)]
  by_cases h : a - (x.f0.size : Int) < 0
  · exact ⟨-1, if_pos h, Or.inl rfl⟩
  rw [if_neg h, w64 (by omega) (by omega)]
  by_cases h2 : a - (x.f0.size : Int) - (x.f1.size : Int) < 0
  · exact ⟨-1, if_pos h2, Or.inl rfl⟩
  · exact ⟨_, if_neg h2, Or.inr ⟨by omega, by omega⟩⟩
theorem eqNodeS_l (l : List S53) (hl : l.length ≤ 281474976710656) (d : Nat) : ∀ (i : Nat), i + d = l.length → Ev (fun k => laws_eqNodeS.l0 k l l i) true := by
  induction d with
  | zero => intro i hi; exact Ev.step (fun k => by simp only [laws_eqNodeS.l0]; exact if_neg (by omega)) (Ev.now _)
  | succ d ih =>
    intro i hi
    refine Ev.step (fun k => by simp only [laws_eqNodeS.l0]; rw [if_pos (by omega), if_pos (by omega), if_pos (by omega), w64 (by omega) (by omega), eqNode_e, Option.bind_some]) ?_
    exact Ev.pos (by trivial) (ih (i + 1) (by omega))
theorem eqTree_ev (l : List S53) (hl : l.length ≤ 281474976710656) : Ev (fun k => laws_eqTree.f k l l) true := by
  simp only [laws_eqTree.f, laws_eqNodeS.f]
  exact Ev.bind (Ev.pos (by trivial) (eqNodeS_l l hl l.length 0 (by omega))) (Ev.pos (by trivial) (Ev.now _))
theorem toNodeS_l (l : List S100) (hl : l.length ≤ 281474976710656) (d : Nat) : ∀ (i : Nat) (y : List S53), i + d = l.length → y.length = l.length → y.take i = (l.map cvN).take i → Ev (fun k => laws_toNodeS.l0 k l y i) (l.map cvN) := by
  induction d with
  | zero =>
    intro i y hi hy ht
    refine Ev.step (fun k => by simp only [laws_toNodeS.l0]; exact if_neg (by omega)) ?_
    rw [List.take_of_length_le (by omega), List.take_of_length_le (by simp; omega)] at ht
    rw [ht]; exact Ev.now _
  | succ d ih =>
    intro i y hi hy ht
    refine Ev.step (fun k => by simp only [laws_toNodeS.l0]; rw [if_pos (by omega), if_pos (by omega), w64 (by omega) (by omega), Int.toNat_natCast]) ?_
    have e : rd_T100 l i = l[i] := by simp [rd_T100, show i < l.length by omega]
    rw [e]
    simp only [laws_toNode.f, Option.bind_some]
    refine Ev.pos (by omega) (ih (i + 1) _ (by omega) (by simpa using hy) ?_)
    rw [List.take_add_one, List.take_add_one, List.take_set_of_le (by omega), ht]
    simp [hy, show i < l.length by omega, cvN]
theorem toTree_ev (l : List S100) (hl : l.length ≤ 1048576) : Ev (fun k => laws_toTree.f k l) (l.map cvN) := by
  simp only [laws_toTree.f, laws_toNodeS.f]
  exact Ev.bind (Ev.pos (by omega) (Ev.pos (by omega) (toNodeS_l l (by omega) l.length 0 _ (by omega) (by simp) (by simp)))) (Ev.now _)
theorem szNodeS_l (l : List S100) (hl : l.length ≤ 9223372036854775807) (hb : ∀ x ∈ l, x.f0.size ≤ 9223372036854775807 ∧ x.f1.size ≤ 9223372036854775807) (d : Nat) : ∀ (i : Nat) (a : Int), i + d = l.length → 0 ≤ a → a ≤ 281474976710656 → ∃ r, Ev (fun k => laws_szNodeS.l0 k l a i) r ∧ (r = -1 ∨ 0 ≤ r ∧ r ≤ a ∧ ∀ x ∈ l.drop i, (x.f0.size : Int) ≤ a ∧ (x.f1.size : Int) ≤ a) := by
  induction d with
  | zero =>
    intro i a hi h0 h1
    exact ⟨a, Ev.step (fun k => by simp only [laws_szNodeS.l0]; exact if_neg (by omega)) (Ev.now _), Or.inr ⟨h0, by omega, by rw [List.drop_of_length_le (by omega)]; simp⟩⟩
  | succ d ih =>
    intro i a hi h0 h1
    have e : rd_T100 l i = l[i] := by simp [rd_T100, show i < l.length by omega]
    have hbi := hb _ (List.getElem_mem (show i < l.length by omega))
    obtain ⟨r, er, hr⟩ := szNode_e l[i] a hbi.1 hbi.2 h0 h1
    have st : ∀ k, laws_szNodeS.l0 (k + 1) l a i = (if r < 0 then (some (-1)) else (laws_szNodeS.l0 k l r ((i + 1 : Nat) : Int))) := by
      intro k
      simp only [laws_szNodeS.l0]
      rw [if_pos (by omega), if_pos (by omega), e, er, Option.bind_some, w64 (by omega) (by omega)]; rfl
    rcases hr with rfl | ⟨h2, h3⟩
    · exact ⟨-1, Ev.step st (Ev.pos (by omega) (Ev.now _)), Or.inl rfl⟩
    · obtain ⟨r2, e2, h4⟩ := ih (i + 1) r (by omega) h2 (by omega)
      refine ⟨r2, Ev.step st (Ev.neg (by omega) e2), ?_⟩
      rcases h4 with h4 | ⟨h6, h7, h8⟩
      · exact Or.inl h4
      · refine Or.inr ⟨h6, by omega, ?_⟩
        rw [List.drop_eq_getElem_cons (by omega)]
        intro x hx
        rcases List.mem_cons.mp hx with rfl | hx
        · constructor <;> omega
        · have := h8 x hx; constructor <;> omega
theorem szTree_ev (l : List S100) (a : Int) (hl : l.length ≤ 9223372036854775807) (hb : ∀ x ∈ l, x.f0.size ≤ 9223372036854775807 ∧ x.f1.size ≤ 9223372036854775807) (ha : 0 ≤ a) (ha2 : a ≤ 281474976710656) : ∃ r, Ev (fun k => laws_szTree.f k l a) r ∧ (r = -1 ∨ 0 ≤ r ∧ r + l.length ≤ a ∧ ∀ x ∈ l, (x.f0.size : Int) ≤ a ∧ (x.f1.size : Int) ≤ a) := by
  by_cases h : a - (l.length : Int) < 0
  · refine ⟨-1, ?_, Or.inl rfl⟩
    simp only [laws_szTree.f, laws_szNodeS.f]
    rw [w64 (by omega) (by omega)]
    exact Ev.bind (Ev.pos h (Ev.now _)) (Ev.pos (by omega) (Ev.now _))
  · obtain ⟨r, e, h2⟩ := szNodeS_l l hl hb l.length 0 (a - (l.length : Int)) (by omega) (by omega) (by omega)
    refine ⟨r, ?_, ?_⟩
    rotate_left
    · rcases h2 with h2 | ⟨h3, h4, h5⟩
      · exact Or.inl h2
      · exact Or.inr ⟨h3, by omega, fun x hx => by have := h5 x (by simpa using hx); constructor <;> omega⟩
    simp only [laws_szTree.f, laws_szNodeS.f]
    rw [w64 (by omega) (by omega)]
    refine Ev.bind (Ev.neg h e) ?_
    rcases h2 with rfl | ⟨h3, _⟩
    · exact Ev.pos (by omega) (Ev.now _)
    · exact Ev.neg (by omega) (Ev.now _)
theorem markNodeS_l (n : Nat) (hn : n ≤ 281474976710656) (d : Nat) : ∀ (i : Nat) (x : List S53) (a : Int), i + d = n → x.length = n → 0 ≤ a → a + 7 * d ≤ 1000000000000000 → ∃ r : Int × List S53, r.1 = a + 7 * d ∧ Ev (fun k => laws_markNodeS.l0 k x a i) r := by
  induction d with
  | zero =>
    intro i x a hi hx h0 h1
    exact Ex.step (fun k => by simp only [laws_markNodeS.l0]; exact if_neg (by omega)) ⟨(a, x), by simp, Ev.now _⟩
  | succ d ih =>
    intro i x a hi hx h0 h1
    obtain ⟨t1, _, e1⟩ := markText_ev a h0 (by omega)
    obtain ⟨t2, _, e2⟩ := markText_ev (a + 1) (by omega) (by omega)
    have g1 : (i : Int) < (x.length : Int) := by omega
    have g2 : 0 ≤ (i : Int) := by omega
    have g3 : i + 1 + d = n := by omega
    have g4 : 0 ≤ a + 1 + 1 + 1 + 1 + 1 + 1 + 1 := by omega
    have g5 : a + 1 + 1 + 1 + 1 + 1 + 1 + 1 + 7 * d ≤ 1000000000000000 := by omega
    have g6 : a + 1 + 1 + 1 + 1 + 1 + 1 + 1 + 7 * (d : Int) = a + 7 * ((d + 1 : Nat) : Int) := by omega
    obtain ⟨w1, w2, w3, w4, w5, w6, w7, w8⟩ : wrap64 (a + 1) = a + 1 ∧ wrap64 (a + 1 + 1) = a + 1 + 1 ∧ wrap64 (a + 1 + 1 + 1) = a + 1 + 1 + 1 ∧ wrap64 (a + 1 + 1 + 1 + 1) = a + 1 + 1 + 1 + 1 ∧ wrap64 (a + 1 + 1 + 1 + 1 + 1) = a + 1 + 1 + 1 + 1 + 1 ∧ wrap64 (a + 1 + 1 + 1 + 1 + 1 + 1) = a + 1 + 1 + 1 + 1 + 1 + 1 ∧ wrap64 (a + 1 + 1 + 1 + 1 + 1 + 1 + 1) = a + 1 + 1 + 1 + 1 + 1 + 1 + 1 ∧ wrap64 ((i : Int) + 1) = ((i + 1 : Nat) : Int) :=
      ⟨w64 (by omega) (by omega), w64 (by omega) (by omega), w64 (by omega) (by omega), w64 (by omega) (by omega), w64 (by omega) (by omega), w64 (by omega) (by omega), w64 (by omega) (by omega), w64 (by omega) (by omega)⟩
    refine Ex.step (fun k => by rw [laws_markNodeS.l0, if_pos g1]) ?_
    rw [w1, w2, w3, w4, w5, w6, w7, w8]
    clear w1 w2 w3 w4 w5 w6 w7 w8
    refine Ex.bind e1 ?_
    refine Ex.pos g2 ?_
    refine Ex.set fun y1 l1 => ?_
    refine Ex.bind e2 ?_
    refine Ex.set fun y2 l2 => ?_
    refine Ex.set fun y3 l3 => ?_
    refine Ex.set fun y4 l4 => ?_
    refine Ex.set fun y5 l5 => ?_
    refine Ex.set fun y6 l6 => ?_
    obtain ⟨r, hr, er⟩ := ih (i + 1) (y6.set (i : Int).toNat ⟨(rd_T53 y6 i).f0, (rd_T53 y6 i).f1, (rd_T53 y6 i).f2, (rd_T53 y6 i).f3, (rd_T53 y6 i).f4, (rd_T53 y6 i).f5, a + 1 + 1 + 1 + 1 + 1 + 1⟩) (a + 1 + 1 + 1 + 1 + 1 + 1 + 1) g3 (by rw [List.length_set, l6, l5, l4, l3, l2, l1, hx]) g4 g5
    exact ⟨r, hr.trans g6, er⟩
theorem markTree_ev (x : List S53) (hx : x.length ≤ 1048576) : ∃ r : Int × List S53, r.1 = 1 + 7 * (x.length : Int) ∧ Ev (fun k => laws_markTree.f k x 1) r := by
  obtain ⟨r, hr, e⟩ := markNodeS_l x.length (by omega) x.length 0 x 1 (by omega) rfl (by omega) (by omega)
  simp only [laws_markTree.f, laws_markNodeS.f]
  exact Ex.bind e ⟨(r.1, r.2), hr, Ev.now _⟩
theorem eqStringS_l (l : List ByteArray) (hl : l.length ≤ 281474976710656) (d : Nat) : ∀ (i : Nat), i + d = l.length → Ev (fun k => laws_eqStringS.l0 k l l i) true := by
  induction d with
  | zero => intro i hi; exact Ev.step (fun k => by simp only [laws_eqStringS.l0]; exact if_neg (by omega)) (Ev.now _)
  | succ d ih =>
    intro i hi
    refine Ev.step (fun k => by simp only [laws_eqStringS.l0]; rw [if_pos (by omega), if_pos (by omega), if_pos (by omega), w64 (by omega) (by omega)]) ?_
    exact Ev.pos (by trivial) (ih (i + 1) (by omega))
theorem eqStringS_ev (l : List ByteArray) (hl : l.length ≤ 281474976710656) : Ev (fun k => laws_eqStringS.f k l l) true := by
  simp only [laws_eqStringS.f]
  exact Ev.pos (by trivial) (eqStringS_l l hl l.length 0 (by omega))
theorem mtextS_ex : ∃ M : Int → ByteArray, ∀ a, 0 ≤ a → a ≤ 4611686018427387904 → Ev (fun k => laws_markText.f k a) (M a) := by
  refine ⟨fun a => if h : 0 ≤ a ∧ a ≤ 4611686018427387904 then Classical.choose (markText_ev a h.1 h.2) else ByteArray.empty, fun a h0 h1 => ?_⟩
  simp only [dif_pos (And.intro h0 h1)]
  exact (Classical.choose_spec (markText_ev a h0 h1)).2
def mkSs (M : Int → ByteArray) (n : Nat) : List ByteArray := (List.range n).map fun j => M (1 + (j : Nat))
theorem markStringS_l (M : Int → ByteArray) (hM : ∀ a, 0 ≤ a → a ≤ 4611686018427387904 → Ev (fun k => laws_markText.f k a) (M a)) (n : Nat) (hn : n ≤ 10000000) (d : Nat) : ∀ (i : Nat) (x : List ByteArray) (a : Int), i + d = n → x.length = n → a = 1 + (i : Int) → (∀ j, j < i → x[j]? = some (M (1 + (j : Int)))) → Ev (fun k => laws_markStringS.l0 k x a i) (1 + (n : Int), mkSs M n) := by
  induction d with
  | zero =>
    intro i x a hi hx ha hq
    have e : x = mkSs M n := by
      apply List.ext_getElem?
      intro j
      by_cases hj : j < n
      · rw [hq j (by omega)]
        simp [mkSs, hj]
      · rw [List.getElem?_eq_none (by omega), List.getElem?_eq_none (by simp [mkSs]; omega)]
    rw [← e, show 1 + (n : Int) = a by omega]
    exact Ev.step (fun k => by simp only [laws_markStringS.l0]; exact if_neg (by omega)) (Ev.now _)
  | succ d ih =>
    intro i x a hi hx ha hq
    have hlt : i < x.length := by omega
    refine Ev.step (fun k => by simp only [laws_markStringS.l0]; rw [if_pos (by omega), w64 (x := a + 1) (by omega) (by omega), w64 (x := (i : Int) + 1) (by omega) (by omega), Int.toNat_natCast]) ?_
    refine Ev.bind (hM a (by omega) (by omega)) (Ev.pos (by omega) ?_)
    refine ih (i + 1) (x.set i (M a)) (a + 1) (by omega) (by rw [List.length_set, hx]) (by omega) (fun j hj => ?_)
    by_cases hji : j = i
    · subst hji
      rw [List.getElem?_set_self hlt, ha]
    · rw [List.getElem?_set_ne (Ne.symm hji)]
      exact hq j (by omega)
theorem heldStringS_l (M : Int → ByteArray) (hM : ∀ a, 0 ≤ a → a ≤ 4611686018427387904 → Ev (fun k => laws_markText.f k a) (M a)) (n : Nat) (hn : n ≤ 10000000) (d : Nat) : ∀ (i : Nat) (a : Int), i + d = n → a = 1 + (i : Int) → Ev (fun k => laws_heldStringS.l0 k (mkSs M n) a i) (1 + (n : Int)) := by
  have hl : (mkSs M n).length = n := by simp [mkSs]
  induction d with
  | zero =>
    intro i a hi ha
    rw [show 1 + (n : Int) = a by omega]
    exact Ev.step (fun k => by simp only [laws_heldStringS.l0]; exact if_neg (by omega)) (Ev.now _)
  | succ d ih =>
    intro i a hi ha
    have hr : rdOf ByteArray.empty (mkSs M n) (i : Int) = M a := by
      have : i < n := by omega
      simp [rdOf, mkSs, this, ha]
    refine Ev.step (fun k => by simp only [laws_heldStringS.l0]; rw [if_pos (by omega), if_pos (by omega), w64 (x := a + 1) (by omega) (by omega), w64 (x := (i : Int) + 1) (by omega) (by omega), hr]) ?_
    exact Ev.bind (hM a (by omega) (by omega)) (Ev.pos (by trivial) (ih (i + 1) (a + 1) (by omega) (by omega)))
theorem markStrings_ev (l : List ByteArray) (hl : l.length ≤ 10000000) : ∃ y : List ByteArray, Ev (fun k => laws_markStringS.f k l 1) (1 + (l.length : Int), y) ∧ Ev (fun k => laws_heldStringS.f k y 1) (1 + (l.length : Int)) := by
  obtain ⟨M, hM⟩ := mtextS_ex
  refine ⟨mkSs M l.length, ?_, ?_⟩
  · simp only [laws_markStringS.f]
    exact markStringS_l M hM l.length hl l.length 0 l 1 (by omega) rfl (by omega) (by omega)
  · simp only [laws_heldStringS.f]
    exact heldStringS_l M hM l.length hl l.length 0 1 (by omega) (by omega)
theorem FnExactChildren : laws_FnExactChildren.Pure := by
  intro l a hl ha
  simp only [maxLen] at hl ha
  apply Ev.rounds
  simp only [laws_FnExactChildren.f]
  by_cases hA : (a.size : Int) > 1048576
  · exact Ev.pos hA (Ev.now _)
  refine Ev.neg hA ?_
  obtain ⟨r, e, h⟩ := szTree_ev l 1048576 (by have := hl.1; omega) (fun x hx => by have := hl.2 x hx; constructor <;> omega) (by omega) (by omega)
  refine Ev.bind e ?_
  by_cases hr : r < 0
  · exact Ev.pos hr (Ev.now _)
  refine Ev.neg hr ?_
  obtain ⟨h0, h1, h2⟩ : 0 ≤ r ∧ r + l.length ≤ 1048576 ∧ ∀ x ∈ l, (x.f0.size : Int) ≤ 1048576 ∧ (x.f1.size : Int) ≤ 1048576 := by
    rcases h with h | h
    · omega
    · exact h
  have hm : ∀ x ∈ l.map cvN, x.f0.size ≤ 1048576 := by
    intro x hx; obtain ⟨y, hy, rfl⟩ := List.mem_map.mp hx; have := (h2 y hy).1; show y.f0.size ≤ _; omega
  have t := toTree_ev l (by omega)
  have hml : (l.map cvN).length ≤ 1048576 := by simp; omega
  have ci := implChildren_ev (l.map cvN) a hml hm (by omega)
  have kl := kids_len (l.map cvN) a
  have eqs := eqStringS_ev (kidsOf (l.map cvN) a) (by omega)
  obtain ⟨m, hm1, em⟩ := markTree_ev (l.map cvN) hml
  obtain ⟨y, e1, e2⟩ := markStrings_ev (kidsOf (l.map cvN) a) (by omega)
  refine Ev.bind t (Ev.bind (specChildren_ev _ a hml hm (by omega)) (Ev.bind t (Ev.bind ci (Ev.bind eqs (Ev.pos (by trivial) ?_)))))
  refine Ev.bind t (Ev.bind (eqTree_ev _ (by omega)) (Ev.pos (by trivial) (Ev.bind em ?_)))
  refine Ev.neg (by omega) (Ev.bind eqs ?_)
  refine Ev.step (fun k => by simp only [laws_FnExactChildren.j0]; exact if_neg (by simp)) ?_
  refine Ev.bind e1 (Ev.bind e2 (Ev.neg (by omega) (Ev.pos (by trivial) ?_)))
  exact Ev.bind t (Ev.bind ci (Ev.bind eqs (Ev.pos (by trivial) (Ev.now _))))

end Go.Proofs.YtejecjjimggjeaaDoor.Pure
