/- What is proved: the law FnExactApplyTxn returns true: at every tree and every transaction of together at most 2^20 letters, nodes and effects the program's ApplyTxn answers as the reference's, leaves its arguments alone, and hands out memory of its own. Conditions: none but the listed variables' contents, which the card's tie pays. -/
import Derived.Test.YtfiojiokmkiflaaDoorGFnExactApplyTxnx6
import Derived.Lib.SplitLaws
import Derived.Lib.IndexBytes
namespace Go.Proofs.YtfiojiokmkiflaaDoor.Pure
open Go.RowKit Go.Proofs.YtfiojiokmkiflaaDoor.GFnExactApplyTxn Go.Proofs.YtfiojiokmkiflaaDoorW.PrintWords Go.Proofs.YtfiojiokmkiflaaDoorW.PrintLast Go.Proofs.YtfiojiokmkiflaaDoorW.PrintMore
set_option linter.unusedVariables false
set_option linter.unusedSimpArgs false

theorem w64 {x : Int} (h0 : -9223372036854775808 ≤ x) (h1 : x < 9223372036854775808) : wrap64 x = x := by unfold wrap64; omega
theorem Ev.pos {α : Type} {c : Prop} [Decidable c] {f g : Nat → Option α} {r : α} (hc : c) (h : Ev f r) : Ev (fun n => if c then f n else g n) r := Ev.congr (fun _ => if_pos hc) h
theorem Ev.neg {α : Type} {c : Prop} [Decidable c] {f g : Nat → Option α} {r : α} (hc : ¬c) (h : Ev g r) : Ev (fun n => if c then f n else g n) r := Ev.congr (fun _ => if_neg hc) h
theorem Ev.bindS {α β : Type} {g : Option α} {f : Nat → α → Option β} {a : α} {r : β} (h : g = some a) (k : Ev (fun n => f n a) r) : Ev (fun n => g.bind (f n)) r := Ev.congr (fun _ => by rw [h]; rfl) k
def consHead (b : UInt8) : List (List UInt8) → List (List UInt8)
  | [] => [[b]]
  | h :: t => (b :: h) :: t
def spl : List UInt8 → List (List UInt8)
  | [] => [[]]
  | b :: l => if b = 47 then [] :: spl l else consHead b (spl l)
def consPre (p : List UInt8) : List (List UInt8) → List (List UInt8)
  | [] => [p]
  | h :: t => (p ++ h) :: t
theorem spl_ne (l : List UInt8) : ∃ h t, spl l = h :: t := by
  cases l with
  | nil => exact ⟨[], [], rfl⟩
  | cons b l =>
    unfold spl
    split
    · exact ⟨_, _, rfl⟩
    · cases spl l <;> exact ⟨_, _, rfl⟩
theorem spl_sum (l : List UInt8) : ((spl l).map List.length).sum + (spl l).length = l.length + 1 := by
  induction l with
  | nil => rfl
  | cons b l ih =>
    unfold spl
    split
    · simp; omega
    · obtain ⟨h, t, e⟩ := spl_ne l
      rw [e] at ih ⊢
      simp [consHead] at ih ⊢; omega
theorem splitK_spl (l : List UInt8) : Go.Lib.splitK [47] 0 (Go.Lib.count l [47]) l = spl l := by
  induction l with
  | nil => rw [Go.Lib.count_miss (by rfl)]; rfl
  | cons b l ih =>
    unfold spl
    by_cases hb : b = 47
    · subst hb
      rw [if_pos rfl, Go.Lib.count_cons_eq, Nat.add_comm 1]
      have hi : Go.Lib.index (47 :: l) [47] = 0 := by rw [Go.Lib.index]; simp [List.isPrefixOf]
      unfold Go.Lib.splitK
      rw [hi]
      simp [ih]
    · rw [if_neg hb, Go.Lib.count_cons_ne b 47 l hb]
      have hi : Go.Lib.index (b :: l) [47] = if Go.Lib.index l [47] == -1 then -1 else Go.Lib.index l [47] + 1 := by
        rw [Go.Lib.index]
        have : ([47] : List UInt8).isPrefixOf (b :: l) = false := by simp [List.isPrefixOf, Ne.symm hb]
        rw [this]; simp
      rw [← ih]
      cases hc : Go.Lib.count l [47] with
      | zero => rfl
      | succ k =>
        have hm : ¬ Go.Lib.index l [47] = -1 := fun e => by rw [Go.Lib.count_miss e] at hc; omega
        have hge := Go.Lib.index_ge l [47]
        obtain ⟨j, hj⟩ : ∃ j : Nat, Go.Lib.index l [47] = j := ⟨(Go.Lib.index l [47]).toNat, by omega⟩
        unfold Go.Lib.splitK
        rw [hi, hj]
        have h1 : ¬ (((j : Nat) : Int) == -1) = true := by simp
        rw [if_neg h1, if_neg h1, if_neg (by simp; omega)]
        simp only [consHead]
        have h2 : ((j : Int) + 1).toNat = j + 1 := by omega
        rw [h2, Int.toNat_natCast]
        simp
theorem data_inj {a b : ByteArray} (h : a.data.toList = b.data.toList) : a = b := by
  obtain ⟨⟨l⟩⟩ := a
  obtain ⟨⟨m⟩⟩ := b
  simp at h
  rw [h]
theorem map_inj {xs ys : List ByteArray} (h : xs.map (fun s => s.data.toList) = ys.map (fun s => s.data.toList)) : xs = ys := by
  induction xs generalizing ys with
  | nil => cases ys with
    | nil => rfl
    | cons _ _ => simp at h
  | cons x xs ih => cases ys with
    | nil => simp at h
    | cons y ys =>
      simp only [List.map_cons, List.cons.injEq] at h
      rw [data_inj h.1, ih h.2]
/-- The pieces of a text between slashes. -/
def names (s : ByteArray) : List ByteArray := (spl s.data.toList).map fun l => ⟨l.toArray⟩
theorem names_data (s : ByteArray) : (names s).map (fun s => s.data.toList) = spl s.data.toList := by
  unfold names; rw [List.map_map]; simp [Function.comp_def]
theorem count_le (l : List UInt8) : Go.Lib.count l [47] ≤ l.length := by rw [Go.Lib.count_one]; exact List.count_le_length
theorem implSplit (s : ByteArray) (h : s.size ≤ 1000000) : strings_Split.f s (⟨#[47]⟩ : ByteArray) = some (names s) := by
  unfold strings_Split.f
  have hc : Go.Lib.countB s ⟨#[47]⟩ ≤ s.size := by
    show Go.Lib.count s.data.toList [47] ≤ _
    rw [Go.Lib.size_eq]; exact count_le _
  rw [if_pos ⟨by omega, by decide, by omega⟩]
  congr 1
  apply map_inj
  rw [names_data, Go.Lib.splitB_data]
  exact splitK_spl _
theorem bt_list (s : ByteArray) (i : Nat) (h : i < s.size) : ∃ b : UInt8, s.data.toList[i]? = some b ∧ bt s i = (b.toNat : Int) := by
  have hl : i < s.data.toList.length := by rw [← Go.Lib.size_eq]; exact h
  refine ⟨s.data.toList[i], List.getElem?_eq_getElem hl, ?_⟩
  unfold bt
  rw [dif_pos (by simpa using h)]
  congr 2
theorem specNames_l (s : ByteArray) (hs : s.size ≤ 1048576) (d : Nat) : ∀ (f i : Nat), f ≤ i → i + d = s.size → ∃ q : List ByteArray, q.map (fun s => s.data.toList) = consPre ((s.data.toList.drop f).take (i - f)) (spl (s.data.toList.drop i)) ∧ ∀ acc : List ByteArray, acc.length ≤ i + 1 → Ev (fun k => spec_l3Names.l0 k s acc f i) (acc ++ q) := by
  have hn : s.data.toList.length = s.size := (Go.Lib.size_eq s).symm
  induction d with
  | zero =>
    intro f i hf hi
    have hi' : i = s.size := by omega
    subst hi'
    refine ⟨[s.extract f s.size], ?_, fun acc ha => ?_⟩
    · rw [List.drop_of_length_le (l := s.data.toList) (i := s.size) (by omega)]
      simp [spl, consPre, Go.Lib.extract_data]
    · refine Ev.step (fun k => by simp only [spec_l3Names.l0]; rw [if_pos (by omega), if_pos (by trivial), if_pos (by omega), if_pos (by omega), if_pos (by omega), w64 (by omega) (by omega), Int.toNat_natCast, Int.toNat_natCast]) ?_
      exact Ev.step (fun k => by simp only [spec_l3Names.l0]; exact if_neg (by omega)) (Ev.now _)
  | succ d ih =>
    intro f i hf hi
    obtain ⟨b, hb, eb⟩ := bt_list s i (by omega)
    have hd : s.data.toList.drop i = b :: s.data.toList.drop (i + 1) := by
      rw [List.drop_eq_getElem_cons (by omega)]
      rw [List.getElem?_eq_getElem (by omega)] at hb
      rw [Option.some.inj hb]
    by_cases h47 : b = 47
    · obtain ⟨q, hq, he⟩ := ih (i + 1) (i + 1) (Nat.le_refl _) (by omega)
      refine ⟨s.extract f i :: q, ?_, fun acc ha => ?_⟩
      · rw [List.map_cons, hq, hd, h47]
        obtain ⟨x, t, e⟩ := spl_ne (s.data.toList.drop (i + 1))
        simp [spl, consPre, Go.Lib.extract_data, e]
      · refine Ev.step (fun k => by simp only [spec_l3Names.l0]; rw [if_pos (by omega), if_neg (by omega), if_pos (by omega), if_pos (by omega), eb, if_pos (by rw [h47]; rfl), if_pos (by omega), if_pos (by omega), if_pos (by omega), w64 (by omega) (by omega), Int.toNat_natCast, Int.toNat_natCast]) ?_
        have := he (acc ++ [s.extract f i]) (by simp; omega)
        rw [List.append_assoc] at this
        exact this
    · obtain ⟨q, hq, he⟩ := ih f (i + 1) (by omega) (by omega)
      refine ⟨q, ?_, fun acc ha => ?_⟩
      · rw [hq, hd]
        have h1 : spl (b :: s.data.toList.drop (i + 1)) = consHead b (spl (s.data.toList.drop (i + 1))) := by rw [spl, if_neg h47]
        obtain ⟨x, t, e⟩ := spl_ne (s.data.toList.drop (i + 1))
        rw [h1, e]
        simp only [consHead, consPre]
        congr 1
        rw [show i + 1 - f = (i - f) + 1 by omega, List.take_add_one, List.append_assoc]
        congr 1
        rw [List.getElem?_drop, show f + (i - f) = i by omega, hb]
        rfl
      · have hne : ¬ ((b.toNat : Int) = 47) := fun e => h47 (by
          have : b.toNat = 47 := by omega
          exact UInt8.toNat_inj.mp (by rw [this]; rfl))
        refine Ev.step (fun k => by simp only [spec_l3Names.l0]; rw [if_pos (by omega), if_neg (by omega), if_pos (by omega), if_pos (by omega), eb, if_neg hne, w64 (by omega) (by omega)]) ?_
        exact he acc (by omega)
theorem specNames_ev (s : ByteArray) (h1 : 1 ≤ s.size) (hs : s.size ≤ 1048576) : Ev (fun k => spec_l3Names.f k s) (names (s.extract 1 s.size)) := by
  obtain ⟨q, hq, he⟩ := specNames_l s hs (s.size - 1) 1 1 (Nat.le_refl _) (by omega)
  have e : q = names (s.extract 1 s.size) := by
    apply map_inj
    rw [names_data, hq, Go.Lib.extract_to_end]
    obtain ⟨x, t, e⟩ := spl_ne (s.data.toList.drop 1)
    rw [e]
    simp [consPre]
  rw [← e]
  simp only [spec_l3Names.f]
  exact he [] (by simp)

def letter (b : UInt8) : Bool := (decide (97 ≤ b.toNat) && decide (b.toNat ≤ 122)) || (decide (48 ≤ b.toNat) && decide (b.toNat ≤ 57))
def okName (s : ByteArray) : Bool := s.data.toList.all letter && decide (1 ≤ s.size) && decide (s.size ≤ 16)
theorem drop_cons (s : ByteArray) (i : Nat) (b : UInt8) (h : s.data.toList[i]? = some b) : s.data.toList.drop i = b :: s.data.toList.drop (i + 1) := by
  obtain ⟨hl, e⟩ := List.getElem?_eq_some_iff.1 h
  rw [List.drop_eq_getElem_cons hl, e]
theorem implName_l (s : ByteArray) (hs : s.size ≤ 1048576) (d : Nat) : ∀ (i : Nat), i + d = s.size → Ev (fun k => impl_validName.l0 k s (s.size : Int) i) ((s.data.toList.drop i).all letter && decide (1 ≤ s.size) && decide (s.size ≤ 16)) := by
  induction d with
  | zero =>
    intro i hi
    rw [List.drop_of_length_le (by rw [← Go.Lib.size_eq]; omega)]
    refine Ev.step (fun k => by simp only [impl_validName.l0]; exact if_neg (by omega)) ?_
    by_cases h1 : 1 ≤ s.size
    · refine Ev.pos (by omega) ?_
      rw [decide_eq_true h1]
      simp only [List.all_nil, Bool.true_and]
      refine Ev.congr (fun k => ?_) (Ev.now _)
      congr 1
      by_cases h2 : s.size ≤ 16
      · rw [decide_eq_true h2, decide_eq_true (by omega)]
      · rw [decide_eq_false h2, decide_eq_false (by omega)]
    · rw [decide_eq_false h1]
      simp only [List.all_nil, Bool.true_and, Bool.false_and]
      exact Ev.neg (by omega) (Ev.now _)
  | succ d ih =>
    intro i hi
    obtain ⟨b, hb, eb⟩ := bt_list s i (by omega)
    have hlt := b.toNat_lt
    rw [drop_cons s i b hb, List.all_cons]
    refine Ev.step (fun k => by simp only [impl_validName.l0]; rw [if_pos (by omega), if_pos (by omega), if_pos (by omega), eb, w64 (by omega) (by omega)]) ?_
    by_cases hl : letter b = true
    · rw [hl, Bool.true_and]
      have := ih (i + 1) (by omega)
      simp only [letter, Bool.or_eq_true, Bool.and_eq_true, decide_eq_true_eq] at hl
      by_cases c1 : (b.toNat : Int) < 97
      · exact Ev.pos c1 (Ev.neg (by omega) (Ev.neg (by omega) this))
      · exact Ev.neg c1 (Ev.neg (by omega) this)
    · have hl' : letter b = false := by simpa using hl
      rw [hl']
      simp only [Bool.false_and]
      simp only [letter, Bool.or_eq_true, Bool.and_eq_true, decide_eq_true_eq] at hl
      by_cases c1 : (b.toNat : Int) < 97
      · by_cases c2 : (b.toNat : Int) < 48
        · exact Ev.pos c1 (Ev.pos c2 (Ev.now _))
        · exact Ev.pos c1 (Ev.neg c2 (Ev.pos (by omega) (Ev.now _)))
      · exact Ev.neg c1 (Ev.pos (by omega) (Ev.neg (by omega) (Ev.pos (by omega) (Ev.now _))))
theorem implName_ev (s : ByteArray) (hs : s.size ≤ 1048576) : Ev (fun k => impl_validName.f k s) (okName s) := by
  simp only [impl_validName.f]
  exact implName_l s hs s.size 0 (by omega)
theorem specLetter_e (b : UInt8) : spec_l3Letter.f (b.toNat : Int) = some (letter b) := by
  simp only [spec_l3Letter.f]
  by_cases c1 : (b.toNat : Int) ≥ 97
  · rw [if_pos c1]
    by_cases c2 : (b.toNat : Int) ≤ 122
    · rw [if_pos c2]; congr 1; simp only [letter]; rw [decide_eq_true (by omega), decide_eq_true (by omega)]; rfl
    · rw [if_neg c2, if_pos (by omega)]
      congr 1; simp only [letter]; rw [decide_eq_false (by omega), decide_eq_false (p := b.toNat ≤ 122) (by omega), decide_eq_false (p := b.toNat ≤ 57) (by omega)]; simp
  · rw [if_neg c1]
    by_cases c3 : (b.toNat : Int) ≥ 48
    · rw [if_pos c3]
      congr 1; simp only [letter]; rw [decide_eq_false (p := 97 ≤ b.toNat) (by omega), decide_eq_true (p := 48 ≤ b.toNat) (by omega)]
      by_cases c4 : b.toNat ≤ 57
      · rw [decide_eq_true c4, decide_eq_true (by omega)]; rfl
      · rw [decide_eq_false c4, decide_eq_false (by omega)]; rfl
    · rw [if_neg c3]
      congr 1; simp only [letter]; rw [decide_eq_false (p := 97 ≤ b.toNat) (by omega), decide_eq_false (p := 48 ≤ b.toNat) (by omega)]; rfl
theorem rdN (l : List ByteArray) (i : Nat) (h : i < l.length) : rdOf ByteArray.empty l i = l[i] := by simp [rdOf, h]
theorem specName_1 (l : List ByteArray) (i : Nat) (hi : i < l.length) (hl : l.length ≤ 1048577) (hs : l[i].size ≤ 1048576) (r : Bool) (hk : l[i].data.toList.all letter = true → Ev (fun k => spec_ValidPath.l0 k l ((i + 1 : Nat) : Int)) r) (hf : l[i].data.toList.all letter = false → r = false) (d : Nat) : ∀ (j : Nat), j + d = l[i].size → (l[i].data.toList.take j).all letter = true → Ev (fun k => spec_ValidPath.l1 k l i j) r := by
  induction d with
  | zero =>
    intro j hj ht
    refine Ev.step (fun k => by simp only [spec_ValidPath.l1]; rw [if_pos (by omega), if_pos (by omega), rdN l i hi, if_neg (by omega), w64 (by omega) (by omega)]) ?_
    rw [List.take_of_length_le (by rw [← Go.Lib.size_eq]; omega)] at ht
    exact hk ht
  | succ d ih =>
    intro j hj ht
    obtain ⟨b, hb, eb⟩ := bt_list l[i] j (by omega)
    refine Ev.step (fun k => by simp only [spec_ValidPath.l1]; rw [if_pos (by omega), if_pos (by omega), rdN l i hi, if_pos (by omega), if_pos (by omega), eb, specLetter_e, Option.bind_some, w64 (by omega) (by omega)]) ?_
    by_cases hlb : letter b = true
    · refine Ev.pos hlb (ih (j + 1) (by omega) ?_)
      rw [List.take_add_one, hb, List.all_append, ht]
      simp [hlb]
    · refine Ev.neg hlb ?_
      have : r = false := by
        apply hf
        rw [← List.take_append_drop j l[i].data.toList, drop_cons _ j b hb, List.all_append, List.all_cons]
        simp [hlb]
      rw [this]; exact Ev.now _
theorem specAll_l (l : List ByteArray) (hl : l.length ≤ 1048577) (hs : ∀ x ∈ l, x.size ≤ 1048576) (d : Nat) : ∀ (i : Nat), i + d = l.length → Ev (fun k => spec_ValidPath.l0 k l i) ((l.drop i).all okName) := by
  induction d with
  | zero =>
    intro i hi
    rw [List.drop_of_length_le (by omega)]
    exact Ev.step (fun k => by simp only [spec_ValidPath.l0]; exact if_neg (by omega)) (Ev.now _)
  | succ d ih =>
    intro i hi
    rw [List.drop_eq_getElem_cons (by omega), List.all_cons]
    refine Ev.step (fun k => by simp only [spec_ValidPath.l0]; rw [if_pos (by omega), if_pos (by omega), rdN l i (by omega)]) ?_
    by_cases c1 : l[i].size < 1
    · have : okName l[i] = false := by simp only [okName]; rw [decide_eq_false (by omega)]; simp
      rw [this, Bool.false_and]
      exact Ev.pos (by omega) (Ev.step (fun k => by simp only [spec_ValidPath.j2]; exact if_pos (by trivial)) (Ev.now _))
    refine Ev.neg (by omega) ?_
    by_cases c2 : l[i].size ≤ 16
    · rw [decide_eq_false (by omega)]
      refine Ev.step (fun k => by simp only [spec_ValidPath.j2]; exact if_neg (by simp)) ?_
      refine specName_1 l i (by omega) hl (hs _ (List.getElem_mem _)) _ (fun h => ?_) (fun h => ?_) l[i].size 0 (by omega) (by simp)
      · have : okName l[i] = true := by simp only [okName, h]; rw [decide_eq_true (by omega), decide_eq_true c2]; rfl
        rw [this, Bool.true_and]
        exact ih (i + 1) (by omega)
      · have : okName l[i] = false := by simp only [okName, h]; rfl
        rw [this, Bool.false_and]
    · have : okName l[i] = false := by simp only [okName]; rw [decide_eq_false c2]; simp
      rw [this, Bool.false_and, decide_eq_true (by omega)]
      exact Ev.step (fun k => by simp only [spec_ValidPath.j2]; exact if_pos (by trivial)) (Ev.now _)
theorem implAll_l (l : List ByteArray) (hl : l.length ≤ 1048577) (hs : ∀ x ∈ l, x.size ≤ 1048576) (d : Nat) : ∀ (i : Nat), i + d = l.length → Ev (fun k => impl_ValidPath.l0 k l l (l.length : Int) i) ((l.drop i).all okName && decide (l.length ≤ 6)) := by
  induction d with
  | zero =>
    intro i hi
    rw [List.drop_of_length_le (by omega)]
    refine Ev.step (fun k => by simp only [impl_ValidPath.l0]; exact if_neg (by omega)) ?_
    simp only [List.all_nil, Bool.true_and]
    refine Ev.congr (fun k => ?_) (Ev.now _)
    congr 1
    by_cases h2 : l.length ≤ 6
    · rw [decide_eq_true h2, decide_eq_true (by omega)]
    · rw [decide_eq_false h2, decide_eq_false (by omega)]
  | succ d ih =>
    intro i hi
    rw [List.drop_eq_getElem_cons (by omega), List.all_cons]
    refine Ev.step (fun k => by simp only [impl_ValidPath.l0]; rw [if_pos (by omega), if_pos (by omega), if_pos (by omega), rdN l i (by omega), w64 (by omega) (by omega)]) ?_
    refine Ev.bind (implName_ev l[i] (hs _ (List.getElem_mem _))) ?_
    by_cases c : okName l[i] = true
    · rw [c, Bool.true_and]; exact Ev.pos (by trivial) (ih (i + 1) (by omega))
    · have c' : okName l[i] = false := by simpa using c
      rw [c']
      simp only [Bool.false_and]
      exact Ev.neg (by simp) (Ev.now _)
/-- What both answer. -/
def okPath (s : ByteArray) : Bool := if s.data.toList = [47] then true else decide (2 ≤ s.size) && decide (s.data.toList.head? = some 47) && decide ((names (s.extract 1 s.size)).length ≤ 6) && (names (s.extract 1 s.size)).all okName
theorem names_len (s : ByteArray) : (names s).length ≤ s.size + 1 := by
  have h := spl_sum s.data.toList
  have e := Go.Lib.size_eq s
  have e2 : (names s).length = (spl s.data.toList).length := by simp [names]
  omega
theorem names_size (s : ByteArray) : ∀ x ∈ names s, x.size ≤ s.size := by
  intro x hx
  obtain ⟨l, hl, rfl⟩ := List.mem_map.mp hx
  have h := spl_sum s.data.toList
  have h2 : ∀ (L : List (List UInt8)), l ∈ L → l.length ≤ (L.map List.length).sum := by
    intro L hm
    induction L with
    | nil => cases hm
    | cons a L ih =>
      rcases List.mem_cons.mp hm with rfl | hm
      · simp
      · have := ih hm; simp; omega
  have h3 := h2 _ hl
  obtain ⟨a, t, e⟩ := spl_ne s.data.toList
  have h4 : 1 ≤ (spl s.data.toList).length := by rw [e]; simp
  rw [Go.Lib.size_eq, Go.Lib.size_eq]
  show l.toArray.toList.length ≤ _
  simp at h ⊢; omega
theorem names_bound (s : ByteArray) (h1 : (names s).length ≤ 6) (h2 : (names s).all okName = true) : s.size ≤ 101 := by
  have h := spl_sum s.data.toList
  have h3 : ∀ (L : List (List UInt8)), (L.map fun l => (⟨l.toArray⟩ : ByteArray)).all okName = true → (L.map List.length).sum ≤ 16 * L.length := by
    intro L
    induction L with
    | nil => intro _; simp
    | cons a L ih =>
      intro hL
      simp only [List.map_cons, List.all_cons, Bool.and_eq_true] at hL
      have h5 := ih hL.2
      have h6 : a.length ≤ 16 := by
        have := hL.1
        simp only [okName, Bool.and_eq_true, decide_eq_true_eq] at this
        have := this.2
        rw [Go.Lib.size_eq] at this
        simpa using this
      simp only [List.map_cons, List.sum_cons, List.length_cons]
      omega
  have h7 := h3 _ h2
  have h8 : (spl s.data.toList).length ≤ 6 := by simpa [names] using h1
  rw [Go.Lib.size_eq]
  omega
theorem ext_size1 (s : ByteArray) : (s.extract 1 s.size).size = s.size - 1 := by rw [ByteArray.size_extract]; omega
theorem specPath_ev (s : ByteArray) (hs : s.size ≤ 1048576) : Ev (fun k => spec_ValidPath.f k s) (okPath s) := by
  simp only [spec_ValidPath.f]
  rw [Go.Lib.toList_data]
  unfold okPath
  by_cases h0 : s.data.toList = [47]
  · rw [if_pos h0]; exact Ev.pos h0 (Ev.now _)
  rw [if_neg h0]
  refine Ev.neg h0 ?_
  by_cases h1 : s.size < 2
  · rw [decide_eq_false (by omega)]
    simp only [Bool.false_and]
    exact Ev.pos (by omega) (Ev.step (fun k => by simp only [spec_ValidPath.j0]; exact if_pos (by trivial)) (Ev.now _))
  refine Ev.neg (by omega) (Ev.pos (by omega) ?_)
  obtain ⟨b, hb, eb⟩ := bt_list s 0 (by omega)
  have eb' : bt s 0 = (b.toNat : Int) := eb
  have hh : s.data.toList.head? = some b := by rw [List.head?_eq_getElem?]; exact hb
  rw [eb', hh, decide_eq_true (p := 2 ≤ s.size) (by omega), Bool.true_and]
  by_cases h47 : b = 47
  · subst h47
    rw [decide_eq_true rfl, Bool.true_and]
    refine Ev.step (fun k => by simp only [spec_ValidPath.j0]; exact if_neg (by decide)) ?_
    refine Ev.bind (specNames_ev s (by omega) hs) ?_
    by_cases h6 : (names (s.extract 1 s.size)).length ≤ 6
    · rw [decide_eq_true h6, Bool.true_and]
      refine Ev.neg (by omega) ?_
      have hn := names_len (s.extract 1 s.size)
      rw [ext_size1] at hn
      exact specAll_l _ (by omega) (fun x hx => by have := names_size _ x hx; rw [ext_size1] at this; omega) (names (s.extract 1 s.size)).length 0 (by omega)
    · rw [decide_eq_false h6, Bool.false_and]
      exact Ev.pos (by omega) (Ev.now _)
  · rw [decide_eq_false (by simpa using h47)]
    simp only [Bool.false_and]
    have : ((b.toNat : Int) != 47) = true := by
      have : b.toNat ≠ 47 := fun e => h47 (UInt8.toNat_inj.mp (by rw [e]; rfl))
      simp; omega
    rw [this]
    exact Ev.step (fun k => by simp only [spec_ValidPath.j0]; exact if_pos (by trivial)) (Ev.now _)
theorem cut_e (s : ByteArray) : ∃ p : Bool, p = decide (s.data.toList.head? = some 47) ∧ strings_CutPrefix.f s (⟨#[47]⟩ : ByteArray) = some (if p = true then (s.extract 1 s.size, true) else (s, false)) := by
  refine ⟨_, rfl, ?_⟩
  simp only [strings_CutPrefix.f, stringslite_CutPrefix.f, stringslite_HasPrefix.f]
  have e1 : ((⟨#[47]⟩ : ByteArray).size : Int) = 1 := rfl
  rw [e1]
  by_cases h1 : (s.size : Int) ≥ 1
  · rw [if_pos h1, if_pos (by omega), if_pos (by omega), Option.bind_some]
    have e2 : (s.extract 0 (1 : Int).toNat).toList = s.data.toList.take 1 := by
      rw [Go.Lib.extract_toList]; simp
    have e3 : (⟨#[47]⟩ : ByteArray).toList = [47] := by rw [Go.Lib.toList_data]
    rw [e2, e3]
    have hne : s.data.toList ≠ [] := fun e => by rw [Go.Lib.size_eq, e] at h1; simp at h1
    obtain ⟨b, t, e⟩ := List.exists_cons_of_ne_nil hne
    rw [e]
    by_cases hb : b = 47
    · subst hb; simp
      rw [if_pos (by omega)]; rfl
    · simp [hb]
  · rw [if_neg h1, Option.bind_some]
    have : s.data.toList = [] := by
      have h2 : s.data.toList.length = 0 := by rw [← Go.Lib.size_eq]; omega
      exact List.length_eq_zero_iff.mp h2
    rw [this]; simp
theorem implPath_ev (s : ByteArray) (hs : s.size ≤ 1048576) : Ev (fun k => impl_ValidPath.f k s) (okPath s) := by
  simp only [impl_ValidPath.f]
  rw [Go.Lib.toList_data]
  unfold okPath
  by_cases h0 : s.data.toList = [47]
  · rw [if_pos h0]; exact Ev.pos h0 (Ev.now _)
  rw [if_neg h0]
  refine Ev.neg h0 ?_
  obtain ⟨p, hp, hc⟩ := cut_e s
  refine Ev.bindS hc ?_
  by_cases h47 : s.data.toList.head? = some 47
  · rw [decide_eq_true h47] at hp
    subst hp
    rw [decide_eq_true h47, Bool.and_true]
    have h2 : 2 ≤ s.size := by
      rw [Go.Lib.size_eq]
      cases e : s.data.toList with
      | nil => rw [e] at h47; cases h47
      | cons b t =>
        rw [e] at h47 h0
        cases t with
        | nil => simp at h47; simp [h47] at h0
        | cons _ _ => simp
    rw [decide_eq_true h2, Bool.true_and]
    refine Ev.pos (by trivial) ?_
    by_cases h102 : s.size ≤ 102
    · rw [decide_eq_false (by omega)]
      refine Ev.step (fun k => by simp only [impl_ValidPath.j0]; exact if_neg (by simp)) ?_
      refine Ev.bindS (implSplit (s.extract 1 s.size) (by rw [ext_size1]; omega)) ?_
      have hn := names_len (s.extract 1 s.size)
      rw [ext_size1] at hn
      rw [Bool.and_comm]
      exact implAll_l _ (by omega) (fun x hx => by have := names_size _ x hx; rw [ext_size1] at this; omega) (names (s.extract 1 s.size)).length 0 (by omega)
    · rw [decide_eq_true (by omega)]
      have : (decide ((names (s.extract 1 s.size)).length ≤ 6) && (names (s.extract 1 s.size)).all okName) = false := by
        cases h : (decide ((names (s.extract 1 s.size)).length ≤ 6) && (names (s.extract 1 s.size)).all okName) with
        | false => rfl
        | true =>
          simp only [Bool.and_eq_true, decide_eq_true_eq] at h
          have := names_bound _ h.1 h.2
          rw [ext_size1] at this
          omega
      rw [this]
      exact Ev.step (fun k => by simp only [impl_ValidPath.j0]; exact if_pos (by trivial)) (Ev.now _)
  · rw [decide_eq_false h47] at hp
    subst hp
    rw [decide_eq_false h47]
    simp only [Bool.and_false, Bool.false_and]
    exact Ev.neg (by simp) (Ev.step (fun k => by simp only [impl_ValidPath.j0]; exact if_pos (by trivial)) (Ev.now _))

def inSt (v : Int) : Bool := decide (0 ≤ v) && decide (v ≤ 2147483647)
theorem stat_e (v : Int) : spec_l3Stat.f v = some (inSt v) := by
  simp only [spec_l3Stat.f, inSt]
  by_cases h : v ≥ 0
  · rw [if_pos h, decide_eq_true (p := 0 ≤ v) h, Bool.true_and]
  · rw [if_neg h, decide_eq_false (p := 0 ≤ v) h, Bool.false_and]
theorem inSt_i (v : Int) : inSt v = decide (inStat v) := by
  unfold inSt inStat
  by_cases h1 : 0 ≤ v <;> by_cases h2 : v ≤ 2147483647 <;> simp [h1, h2]
def okNode (x : S77) : Bool := okPath x.f0 && decide (x.f1.size ≤ 64) && inSt x.f2 && inSt x.f3 && inSt x.f4 && inSt x.f5 && inSt x.f6
theorem specNode_ev (x : S77) (h : x.f0.size ≤ 1048576) : Ev (fun k => spec_l3ValidNode.f k x.f0 x.f1 x.f2 x.f3 x.f4 x.f5 x.f6) (okNode x) := by
  simp only [spec_l3ValidNode.f, okNode]
  refine Ev.bind (specPath_ev _ h) ?_
  cases okPath x.f0 with
  | false => simp only [Bool.false_and]; exact Ev.neg (by simp) (Ev.now _)
  | true =>
    refine Ev.pos (by trivial) ?_
    by_cases h1 : x.f1.size ≤ 64
    rotate_left
    · rw [decide_eq_false h1]; simp only [Bool.and_false, Bool.false_and]; exact Ev.neg (by omega) (Ev.now _)
    rw [decide_eq_true h1]
    simp only [Bool.true_and]
    refine Ev.pos (by omega) (Ev.bindS (stat_e _) ?_)
    cases inSt x.f2 with
    | false => simp only [Bool.false_and]; exact Ev.neg (by simp) (Ev.now _)
    | true =>
    simp only [Bool.true_and]
    refine Ev.pos (by trivial) (Ev.bindS (stat_e _) ?_)
    cases inSt x.f3 with
    | false => simp only [Bool.false_and]; exact Ev.neg (by simp) (Ev.now _)
    | true =>
    simp only [Bool.true_and]
    refine Ev.pos (by trivial) (Ev.bindS (stat_e _) ?_)
    cases inSt x.f4 with
    | false => simp only [Bool.false_and]; exact Ev.neg (by simp) (Ev.now _)
    | true =>
    simp only [Bool.true_and]
    refine Ev.pos (by trivial) (Ev.bindS (stat_e _) ?_)
    cases inSt x.f5 with
    | false => simp only [Bool.false_and]; exact Ev.neg (by simp) (Ev.now _)
    | true =>
    simp only [Bool.true_and]
    exact Ev.pos (by trivial) (Ev.bindS (stat_e _) (Ev.now _))
theorem implNode_ev (x : S77) (h : x.f0.size ≤ 1048576) : Ev (fun k => impl_Node_valid.f k x.f0 x.f1 x.f2 x.f3 x.f4 x.f5 x.f6) (okNode x) := by
  simp only [impl_Node_valid.f, okNode]
  by_cases hs : inStat x.f2 ∧ inStat x.f3 ∧ inStat x.f4 ∧ inStat x.f5 ∧ inStat x.f6
  · have ⟨s1, s2, s3, s4, s5⟩ := hs
    rw [inSt_i, inSt_i, inSt_i, inSt_i, inSt_i, decide_eq_true s1, decide_eq_true s2, decide_eq_true s3, decide_eq_true s4, decide_eq_true s5]
    simp only [Bool.and_true]
    refine Ev.pos hs (Ev.bind (implPath_ev _ h) ?_)
    cases okPath x.f0 with
    | false => simp only [Bool.false_and]; exact Ev.neg (by simp) (Ev.now _)
    | true =>
      refine Ev.pos (by trivial) (Ev.congr (fun k => ?_) (Ev.now _))
      congr 1
      by_cases h1 : x.f1.size ≤ 64
      · rw [decide_eq_true h1, decide_eq_true (by omega)]; rfl
      · rw [decide_eq_false h1, decide_eq_false (by omega)]; rfl
  · have : (okPath x.f0 && decide (x.f1.size ≤ 64) && inSt x.f2 && inSt x.f3 && inSt x.f4 && inSt x.f5 && inSt x.f6) = false := by
      cases e : (okPath x.f0 && decide (x.f1.size ≤ 64) && inSt x.f2 && inSt x.f3 && inSt x.f4 && inSt x.f5 && inSt x.f6) with
      | false => rfl
      | true =>
        simp only [Bool.and_eq_true, inSt_i, decide_eq_true_eq] at e
        exact absurd ⟨e.1.1.1.1.2, e.1.1.1.2, e.1.1.2, e.1.2, e.2⟩ hs
    rw [this]
    exact Ev.neg hs (Ev.now _)

theorem rdImp (l : List S77) (i : Nat) (h : i < l.length) : rd_T77 l i = l[i] := by simp [rd_T77, h]
def okAt (l : List S77) (i : Nat) : Bool := if i = 0 then true else Go.Op.bytesLess ((rd_T77 l ((i : Int) - 1)).f0.toList) ((rd_T77 l (i : Int)).f0.toList)
def okFrom (l : List S77) : Nat → Bool
  | 0 => true
  | d + 1 => okNode (rd_T77 l ((l.length - (d + 1) : Nat) : Int)) && okAt l (l.length - (d + 1)) && okFrom l d
theorem specSorted_l (l : List S77) (hl : l.length ≤ 1048576) (hs : ∀ x ∈ l, x.f0.size ≤ 1048576) (d : Nat) : ∀ (i : Nat), i + d = l.length → Ev (fun k => spec_l3Sorted.l0 k l i) (okFrom l d) := by
  induction d with
  | zero => intro i hi; exact Ev.step (fun k => by simp only [spec_l3Sorted.l0]; exact if_neg (by omega)) (Ev.now _)
  | succ d ih =>
    intro i hi
    obtain rfl : i = l.length - (d + 1) := by omega
    have hi2 : l.length - (d + 1) < l.length := by omega
    refine Ev.step (fun k => by simp only [spec_l3Sorted.l0]; rw [if_pos (by omega), if_pos (by omega)]) ?_
    simp only [okFrom]
    have hx : (rd_T77 l ((l.length - (d + 1) : Nat) : Int)).f0.size ≤ 1048576 := by rw [rdImp l _ hi2]; exact hs _ (List.getElem_mem _)
    refine Ev.bind (specNode_ev _ hx) ?_
    cases okNode (rd_T77 l ((l.length - (d + 1) : Nat) : Int)) with
    | false => simp only [Bool.false_and]; exact Ev.neg (by simp) (Ev.now _)
    | true =>
      simp only [Bool.true_and]
      refine Ev.pos (by trivial) ?_
      have hn := ih (l.length - (d + 1) + 1) (by omega)
      by_cases h0 : l.length - (d + 1) = 0
      · have : okAt l (l.length - (d + 1)) = true := by unfold okAt; rw [if_pos h0]
        rw [this, Bool.true_and]
        refine Ev.neg (by omega) (Ev.congr (fun k => ?_) hn)
        rw [w64 (by omega) (by omega)]; rfl
      · refine Ev.pos (by omega) (Ev.congr (fun k => by rw [w64 (by omega) (by omega), w64 (by omega) (by omega)]) ?_)
        refine Ev.pos (by omega) (Ev.pos (by omega) ?_)
        have : okAt l (l.length - (d + 1)) = Go.Op.bytesLess ((rd_T77 l (((l.length - (d + 1) : Nat) : Int) - 1)).f0.toList) ((rd_T77 l ((l.length - (d + 1) : Nat) : Int)).f0.toList) := by unfold okAt; rw [if_neg h0]
        rw [← this]
        cases okAt l (l.length - (d + 1)) with
        | false => simp only [Bool.false_and]; exact Ev.neg (by simp) (Ev.now _)
        | true => rw [Bool.true_and]; exact Ev.pos (by trivial) hn
theorem implSorted_l (l : List S77) (hl : l.length ≤ 1048576) (hs : ∀ x ∈ l, x.f0.size ≤ 1048576) (d : Nat) : ∀ (i : Nat), i + d = l.length → Ev (fun k => impl_nodesOk.l0 k l l (l.length : Int) i) (okFrom l d) := by
  induction d with
  | zero => intro i hi; exact Ev.step (fun k => by simp only [impl_nodesOk.l0]; exact if_neg (by omega)) (Ev.now _)
  | succ d ih =>
    intro i hi
    obtain rfl : i = l.length - (d + 1) := by omega
    have hi2 : l.length - (d + 1) < l.length := by omega
    refine Ev.step (fun k => by simp only [impl_nodesOk.l0]; rw [if_pos (by omega), if_pos (by omega), if_pos (by omega)]) ?_
    simp only [okFrom]
    have hx : (rd_T77 l ((l.length - (d + 1) : Nat) : Int)).f0.size ≤ 1048576 := by rw [rdImp l _ hi2]; exact hs _ (List.getElem_mem _)
    refine Ev.bind (implNode_ev _ hx) ?_
    cases okNode (rd_T77 l ((l.length - (d + 1) : Nat) : Int)) with
    | false => simp only [Bool.false_and]; exact Ev.neg (by simp) (Ev.now _)
    | true =>
      simp only [Bool.true_and]
      refine Ev.pos (by trivial) ?_
      have hn := ih (l.length - (d + 1) + 1) (by omega)
      by_cases h0 : l.length - (d + 1) = 0
      · have : okAt l (l.length - (d + 1)) = true := by unfold okAt; rw [if_pos h0]
        rw [this, Bool.true_and]
        refine Ev.neg (by omega) (Ev.congr (fun k => ?_) hn)
        rw [w64 (by omega) (by omega)]; rfl
      · refine Ev.pos (by omega) (Ev.congr (fun k => by rw [w64 (by omega) (by omega), w64 (by omega) (by omega)]) ?_)
        refine Ev.pos (by omega) (Ev.pos (by omega) ?_)
        have : okAt l (l.length - (d + 1)) = Go.Op.bytesLess ((rd_T77 l (((l.length - (d + 1) : Nat) : Int) - 1)).f0.toList) ((rd_T77 l ((l.length - (d + 1) : Nat) : Int)).f0.toList) := by unfold okAt; rw [if_neg h0]
        rw [← this]
        cases okAt l (l.length - (d + 1)) with
        | false => simp only [Bool.false_and]; exact Ev.neg (by simp) (Ev.now _)
        | true => rw [Bool.true_and]; exact Ev.pos (by trivial) hn
def okTree (l : List S77) : Bool := decide (l.length ≤ 1000) && okFrom l l.length
theorem specTree_ev (l : List S77) (hl : l.length ≤ 1048576) (hs : ∀ x ∈ l, x.f0.size ≤ 1048576) : Ev (fun k => spec_ValidTree.f k l) (okTree l) := by
  simp only [spec_ValidTree.f, okTree]
  by_cases h : l.length ≤ 1000
  · rw [decide_eq_true h, Bool.true_and]
    refine Ev.pos (by omega) (Ev.bind ?_ (Ev.now _))
    simp only [spec_l3Sorted.f]
    exact specSorted_l l hl hs l.length 0 (by omega)
  · rw [decide_eq_false h, Bool.false_and]; exact Ev.neg (by omega) (Ev.now _)
theorem implTree_ev (l : List S77) (hl : l.length ≤ 1048576) (hs : ∀ x ∈ l, x.f0.size ≤ 1048576) : Ev (fun k => impl_ValidTree.f k l) (okTree l) := by
  simp only [impl_ValidTree.f, okTree]
  by_cases h : l.length ≤ 1000
  · rw [decide_eq_true h, Bool.true_and]
    refine Ev.pos (by omega) (Ev.bind ?_ (Ev.now _))
    simp only [impl_nodesOk.f]
    exact implSorted_l l hl hs l.length 0 (by omega)
  · rw [decide_eq_false h, Bool.false_and]; exact Ev.neg (by omega) (Ev.now _)

theorem bless : ∀ (x y : List UInt8), Go.Op.bytesLess x y = true → x < y
  | [], [], h => by simp [Go.Op.bytesLess] at h
  | _ :: _, [], h => by simp [Go.Op.bytesLess] at h
  | [], _ :: _, _ => by simp
  | a :: x, b :: y, h => by
    simp only [Go.Op.bytesLess, Bool.or_eq_true, Bool.and_eq_true, decide_eq_true_eq, beq_iff_eq] at h
    rw [List.cons_lt_cons_iff]
    rcases h with h | ⟨h, h2⟩
    · exact Or.inl h
    · exact Or.inr ⟨h, bless x y h2⟩
theorem okFrom_all (l : List S77) (d : Nat) : d ≤ l.length → okFrom l d = true → ∀ j, l.length - d ≤ j → j < l.length → okNode (rd_T77 l (j : Int)) = true ∧ okAt l j = true := by
  induction d with
  | zero => intro _ _ j h1 h2; omega
  | succ d ih =>
    intro hd h j h1 h2
    simp only [okFrom, Bool.and_eq_true] at h
    by_cases hj : j = l.length - (d + 1)
    · subst hj; exact h.1
    · exact ih (by omega) h.2 j (by omega) h2
theorem okTree_all (l : List S77) (h : okTree l = true) : (∀ x ∈ l, okPath x.f0 = true) ∧ l.Pairwise (fun x y => x.f0.data.toList < y.f0.data.toList) := by
  simp only [okTree, Bool.and_eq_true] at h
  have h2 := okFrom_all l l.length (Nat.le_refl _) h.2
  refine ⟨fun x hx => ?_, ?_⟩
  · obtain ⟨j, hj, rfl⟩ := List.mem_iff_getElem.mp hx
    have := (h2 j (by omega) hj).1
    rw [rdImp l j hj] at this
    simp only [okNode, Bool.and_eq_true] at this
    exact this.1.1.1.1.1.1
  · have st : ∀ j (h1 : j + 1 < l.length), l[j].f0.data.toList < l[j + 1].f0.data.toList := by
      intro j h1
      have := (h2 (j + 1) (by omega) h1).2
      unfold okAt at this
      rw [if_neg (by omega), show ((j + 1 : Nat) : Int) - 1 = ((j : Nat) : Int) by omega, rdImp l j (by omega), rdImp l (j + 1) h1, Go.Lib.toList_data, Go.Lib.toList_data] at this
      exact bless _ _ this
    rw [List.pairwise_iff_getElem]
    have : ∀ d i (h1 : i + d + 1 < l.length), l[i].f0.data.toList < l[i + d + 1].f0.data.toList := by
      intro d
      induction d with
      | zero => intro i h1; exact st i h1
      | succ d ih => intro i h1; exact List.lt_trans (ih i (by omega)) (st (i + d + 1) h1)
    intro i j hi hj hij
    obtain ⟨d, rfl⟩ : ∃ d, j = i + d + 1 := ⟨j - i - 1, by omega⟩
    exact this d i hj
theorem bless_of : ∀ (x y : List UInt8), x < y → Go.Op.bytesLess x y = true
  | [], [], h => by simp at h
  | _ :: _, [], h => by simp at h
  | [], _ :: _, _ => by simp [Go.Op.bytesLess]
  | a :: x, b :: y, h => by
    rw [List.cons_lt_cons_iff] at h
    simp only [Go.Op.bytesLess, Bool.or_eq_true, Bool.and_eq_true, decide_eq_true_eq, beq_iff_eq]
    rcases h with h | ⟨h, h2⟩
    · exact Or.inl h
    · exact Or.inr ⟨h, bless_of x y h2⟩
section TreeOps
variable {α : Type} (key : α → List UInt8) (bare : α → α) (eqN : α → α → Bool)
def withM (n : α) : List α → List α
  | [] => [n]
  | x :: l => if key n ≤ key x then n :: (x :: l).filter (fun y => decide (key y ≠ key n)) else x :: withM n l
def withoutM (p : List UInt8) (l : List α) : List α := l.filter fun y => decide (key y ≠ p)
def stepM (l : List α) (e : Bool × α) : List α := if e.1 then withoutM key (key e.2) l else withM key e.2 l
def asc (l : List α) : Prop := l.Pairwise fun x y => key x < key y
theorem mem_withM (n : α) (l : List α) : ∀ z, z ∈ withM key n l → z = n ∨ z ∈ l := by
  induction l with
  | nil => intro z hz; simp [withM] at hz; exact Or.inl hz
  | cons x l ih =>
    intro z hz
    rw [withM] at hz
    split at hz
    · rcases List.mem_cons.mp hz with h | h
      · exact Or.inl h
      · exact Or.inr (List.mem_filter.mp h).1
    · rcases List.mem_cons.mp hz with h | h
      · exact Or.inr (by simp [h])
      · rcases ih z h with h | h
        · exact Or.inl h
        · exact Or.inr (by simp [h])
theorem withM_asc (n : α) (l : List α) (h : asc key l) : asc key (withM key n l) := by
  induction l with
  | nil => simp [withM, asc]
  | cons x l ih =>
    obtain ⟨h1, h2⟩ := List.pairwise_cons.mp h
    rw [withM]
    split
    · next hle =>
      refine List.pairwise_cons.mpr ⟨fun z hz => ?_, h.filter _⟩
      obtain ⟨hz, hne⟩ := List.mem_filter.mp hz
      have hne2 : key z ≠ key n := of_decide_eq_true hne
      have hle2 : key n ≤ key z := by
        rcases List.mem_cons.mp hz with e | hz
        · rw [e]; exact hle
        · exact List.le_trans hle (List.le_of_lt (h1 z hz))
      rcases List.le_iff_lt_or_eq.mp hle2 with h | h
      · exact h
      · exact absurd h.symm hne2
    · next hle =>
      refine List.pairwise_cons.mpr ⟨fun z hz => ?_, ih h2⟩
      rcases mem_withM key n l z hz with e | hz
      · rw [e]; exact Classical.not_not.mp hle
      · exact h1 z hz
theorem withoutM_asc (p : List UInt8) (l : List α) (h : asc key l) : asc key (withoutM key p l) := List.Pairwise.filter _ h
end TreeOps
section Grove
variable {α : Type} (key : α → ByteArray)
def kb (x : α) : List UInt8 := (key x).data.toList
def putM (m : List (ByteArray × α)) (x : α) : List (ByteArray × α) := YtfiojiokmkiflaaDoorH.aset m (key x) x
def newM (ns : List α) : List (ByteArray × α) := ns.foldl (putM key) []
def effM (m : List (ByteArray × α)) (e : Bool × α) : List (ByteArray × α) := if e.1 then YtfiojiokmkiflaaDoorH.adel m (key e.2) else putM key m e.2
def prs (l : List α) : List (ByteArray × α) := l.map fun x => (key x, x)
theorem aget_some {m : List (ByteArray × α)} {k : ByteArray} {v : α} (h : (k, v) ∈ m) (hn : (m.map Prod.fst).Nodup) : YtfiojiokmkiflaaDoorH.aget m k = some v := by
  induction m with
  | nil => cases h
  | cons p m ih =>
    obtain ⟨k', v'⟩ := p
    simp only [List.map_cons, List.nodup_cons] at hn
    simp only [YtfiojiokmkiflaaDoorH.aget]
    by_cases c : k' = k
    · rw [if_pos c]
      rcases List.mem_cons.mp h with h | h
      · rw [(Prod.mk.injEq _ _ _ _).mp h |>.2]
      · exact absurd (List.mem_map.mpr ⟨_, h, rfl⟩) (by rw [← c]; exact hn.1)
    · rw [if_neg c]
      rcases List.mem_cons.mp h with h | h
      · exact absurd ((Prod.mk.injEq _ _ _ _).mp h |>.1).symm c
      · exact ih h hn.2
theorem aget_none {m : List (ByteArray × α)} {k : ByteArray} (h : k ∉ m.map Prod.fst) : YtfiojiokmkiflaaDoorH.aget m k = none := by
  induction m with
  | nil => rfl
  | cons p m ih =>
    obtain ⟨k', v'⟩ := p
    simp only [List.map_cons, List.mem_cons, not_or] at h
    simp only [YtfiojiokmkiflaaDoorH.aget]
    rw [if_neg (fun e => h.1 e.symm)]
    exact ih h.2
theorem fil_ne {m : List (ByteArray × α)} {k : ByteArray} (h : k ∉ m.map Prod.fst) : m.filter (fun p => decide (p.1 ≠ k)) = m := List.filter_eq_self.mpr fun p hp => decide_eq_true fun e => h (List.mem_map.mpr ⟨p, hp, e⟩)
theorem aset_perm {m : List (ByteArray × α)} (k : ByteArray) (v : α) (hn : (m.map Prod.fst).Nodup) : (YtfiojiokmkiflaaDoorH.aset m k v).Perm ((k, v) :: m.filter fun p => decide (p.1 ≠ k)) := by
  induction m with
  | nil => exact List.Perm.refl _
  | cons p m ih =>
    obtain ⟨k', v'⟩ := p
    simp only [List.map_cons, List.nodup_cons] at hn
    simp only [YtfiojiokmkiflaaDoorH.aset]
    by_cases c : k' = k
    · subst c
      rw [if_pos rfl, List.filter_cons_of_neg (by simp), fil_ne hn.1]
    · rw [if_neg c, List.filter_cons_of_pos (by simpa using c)]
      exact (List.Perm.cons _ (ih hn.2)).trans (List.Perm.swap _ _ _)
theorem adel_eq {m : List (ByteArray × α)} (k : ByteArray) (hn : (m.map Prod.fst).Nodup) : YtfiojiokmkiflaaDoorH.adel m k = m.filter fun p => decide (p.1 ≠ k) := by
  induction m with
  | nil => rfl
  | cons p m ih =>
    obtain ⟨k', v'⟩ := p
    simp only [List.map_cons, List.nodup_cons] at hn
    simp only [YtfiojiokmkiflaaDoorH.adel]
    by_cases c : k' = k
    · subst c
      rw [if_pos rfl, List.filter_cons_of_neg (by simp), fil_ne hn.1]
    · rw [if_neg c, List.filter_cons_of_pos (by simpa using c), ih hn.2]
theorem withM_perm (n : α) (l : List α) : (withM (kb key) n l).Perm (n :: l.filter fun y => decide (kb key y ≠ kb key n)) ∨ ¬ asc (kb key) l := by
  induction l with
  | nil => exact .inl (List.Perm.refl _)
  | cons x l ih =>
    by_cases ha : asc (kb key) (x :: l)
    · refine .inl ?_
      rw [withM]
      split
      · exact List.Perm.refl _
      · next hle =>
        rw [List.filter_cons_of_pos (by simp; intro e; exact hle (by rw [e]; exact List.le_refl _))]
        exact (List.Perm.cons _ (ih.resolve_right (fun c => c (List.pairwise_cons.mp ha).2))).trans (List.Perm.swap _ _ _)
    · exact .inr ha
theorem asc_nodup {l : List α} (h : asc (kb key) l) : ((prs key l).map Prod.fst).Nodup := by
  unfold prs
  rw [List.map_map]
  refine List.pairwise_map.mpr (h.imp fun {a b} hab e => ?_)
  have : kb key a = kb key b := congrArg (fun s : ByteArray => s.data.toList) e
  rw [this] at hab
  exact List.lt_irrefl _ hab
theorem prs_filter (k : ByteArray) (l : List α) : (prs key l).filter (fun p => decide (p.1 ≠ k)) = prs key (l.filter fun y => decide (kb key y ≠ k.data.toList)) := by
  unfold prs
  induction l with
  | nil => rfl
  | cons x l ih =>
    have e : decide (key x ≠ k) = decide (kb key x ≠ k.data.toList) := by
      rw [decide_eq_decide]
      exact not_congr ⟨fun h => by rw [kb, h], fun h => data_inj h⟩
    rw [List.map_cons, List.filter_cons, List.filter_cons, ih]
    show (if decide (key x ≠ k) = true then _ else _) = _
    rw [e]
    split <;> rfl
theorem newM_eq (ns : List α) (h : asc (kb key) ns) : newM key ns = prs key ns := by
  have : ∀ (l pre : List α), asc (kb key) (pre ++ l) → l.foldl (putM key) (prs key pre) = prs key (pre ++ l) := by
    intro l
    induction l with
    | nil => intro pre _; simp
    | cons x l ih =>
      intro pre hp
      rw [List.foldl_cons]
      have e : putM key (prs key pre) x = prs key (pre ++ [x]) := by
        unfold putM
        rw [YtfiojiokmkiflaaDoorH.aset_new _ _ (aget_none (fun hm => ?_))]
        · simp [prs]
        · unfold prs at hm
          rw [List.map_map] at hm
          obtain ⟨y, hy, e⟩ := List.mem_map.mp hm
          have h1 := (List.pairwise_append.mp hp).2.2 y hy x (by simp)
          have : kb key y = kb key x := congrArg (fun s : ByteArray => s.data.toList) e
          rw [this] at h1
          exact List.lt_irrefl _ h1
      rw [e, ih (pre ++ [x]) (by simpa using hp)]
      simp
  have := this ns [] (by simpa using h)
  simpa [newM, prs] using this
theorem stepM_asc (e : Bool × α) (l : List α) (h : asc (kb key) l) : asc (kb key) (stepM (kb key) l e) := by
  unfold stepM
  split
  · exact withoutM_asc _ _ _ h
  · exact withM_asc _ _ _ h
theorem effM_perm (e : Bool × α) (m : List (ByteArray × α)) (l : List α) (hm : m.Perm (prs key l)) (h : asc (kb key) l) : (effM key m e).Perm (prs key (stepM (kb key) l e)) := by
  have hn : (m.map Prod.fst).Nodup := (hm.map Prod.fst).nodup_iff.mpr (asc_nodup key h)
  unfold effM stepM
  split
  · rw [adel_eq _ hn]
    refine (hm.filter _).trans ?_
    rw [prs_filter]
    exact List.Perm.refl _
  · unfold putM
    refine (aset_perm _ _ hn).trans ?_
    refine ((hm.filter _).cons _).trans ?_
    rw [prs_filter]
    exact (((withM_perm key e.2 l).resolve_right (fun c => c h)).map fun x => (key x, x)).symm
theorem effs_perm (es : List (Bool × α)) : ∀ (m : List (ByteArray × α)) (l : List α), m.Perm (prs key l) → asc (kb key) l → (es.foldl (effM key) m).Perm (prs key (es.foldl (stepM (kb key)) l)) ∧ asc (kb key) (es.foldl (stepM (kb key)) l) := by
  induction es with
  | nil => intro m l hm h; exact ⟨hm, h⟩
  | cons e es ih => intro m l hm h; exact ih _ _ (effM_perm key e m l hm h) (stepM_asc key e l h)
/-- The map's nodes in the order of their keys. -/
def treeM (z : α) (m : List (ByteArray × α)) : List α := ((m.map fun p => p.1.data.toList).mergeSort fun x y => decide (x ≤ y)).map fun s => (YtfiojiokmkiflaaDoorH.aget m ⟨s.toArray⟩).getD z
theorem treeM_eq (z : α) (m : List (ByteArray × α)) (l : List α) (hm : m.Perm (prs key l)) (h : asc (kb key) l) : treeM z m = l := by
  have hn : (m.map Prod.fst).Nodup := (hm.map Prod.fst).nodup_iff.mpr (asc_nodup key h)
  have e1 : ((m.map fun p => p.1.data.toList).mergeSort fun x y => decide (x ≤ y)) = l.map (kb key) := by
    have hp : (m.map fun p => p.1.data.toList).Perm (l.map (kb key)) := by
      have := hm.map fun p : ByteArray × α => p.1.data.toList
      rw [prs, List.map_map] at this
      exact this
    have tr : ∀ a b c : List UInt8, decide (a ≤ b) = true → decide (b ≤ c) = true → decide (a ≤ c) = true := fun a b c h1 h2 => by simp only [decide_eq_true_eq] at *; exact List.le_trans h1 h2
    have tot : ∀ a b : List UInt8, (decide (a ≤ b) || decide (b ≤ a)) = true := fun a b => by simp only [Bool.or_eq_true, decide_eq_true_eq]; exact List.le_total a b
    refine List.Perm.eq_of_pairwise (le := fun a b => decide (a ≤ b) = true) (fun a b _ _ h1 h2 => ?_) (List.pairwise_mergeSort tr tot _) ?_ ((List.mergeSort_perm _ _).trans hp)
    · simp only [decide_eq_true_eq] at h1 h2
      exact List.le_antisymm h1 h2
    · exact List.pairwise_map.mpr (h.imp fun hab => decide_eq_true (List.le_of_lt hab))
  unfold treeM
  rw [e1, List.map_map]
  refine List.ext_getElem (by simp) fun i h1 h2 => ?_
  rw [List.getElem_map]
  have hk : (⟨(kb key l[i]).toArray⟩ : ByteArray) = key l[i] := rfl
  show (YtfiojiokmkiflaaDoorH.aget m ⟨(kb key l[i]).toArray⟩).getD z = l[i]
  rw [hk, aget_some (hm.mem_iff.mpr (List.mem_map.mpr ⟨l[i], List.getElem_mem h2, rfl⟩)) hn]
  rfl
end Grove
def pk (x : S77) : ByteArray := x.f0
theorem withM_len {α : Type} (key : α → List UInt8) (n : α) (l : List α) : (withM key n l).length ≤ l.length + 1 := by
  induction l with
  | nil => simp [withM]
  | cons x l ih =>
    rw [withM]
    split
    · have := List.length_filter_le (fun y => decide (key y ≠ key n)) (x :: l)
      simp only [List.length_cons] at this ⊢; omega
    · simp only [List.length_cons]; omega
theorem stepM_len {α : Type} (key : α → List UInt8) (l : List α) (e : Bool × α) : (stepM key l e).length ≤ l.length + 1 := by
  unfold stepM
  split
  · exact Nat.le_trans (List.length_filter_le _ _) (by omega)
  · exact withM_len key _ _
theorem wo_eq {α : Type} {key : α → List UInt8} {p : List UInt8} {x : α} {l : List α} (h : key x = p) : withoutM key p (x :: l) = withoutM key p l := List.filter_cons_of_neg (by simp [h])
theorem wo_ne {α : Type} {key : α → List UInt8} {p : List UInt8} {x : α} {l : List α} (h : key x ≠ p) : withoutM key p (x :: l) = x :: withoutM key p l := List.filter_cons_of_pos (by simp [h])
theorem app_one {α : Type} (o : List α) (x : α) (l : List α) : o ++ x :: l = (o ++ [x]) ++ l := by simp
theorem specWithout_l (l : List S77) (hl : l.length ≤ 100000000) (p : ByteArray) (d : Nat) : ∀ (i : Nat) (o : List S77), i + d = l.length → o.length ≤ i + 1 → Ev (fun k => spec_l3Without.l0 k l p o (i : Int)) (o ++ withoutM (kb pk) p.data.toList (l.drop i)) := by
  induction d with
  | zero =>
    intro i o hi _
    refine Ev.step (fun k => by simp only [spec_l3Without.l0]; rw [if_neg (by omega)]) ?_
    rw [List.drop_of_length_le (by omega)]
    simp only [withoutM, List.filter_nil, List.append_nil]
    exact Ev.now _
  | succ d ih =>
    intro i o hi ho
    have hlt : i < l.length := by omega
    have e := rdImp l i hlt
    refine Ev.step (fun k => by simp only [spec_l3Without.l0]; rw [if_pos (by omega), if_pos (by omega), e, w64 (by omega) (by omega), Go.Lib.toList_data, Go.Lib.toList_data]) ?_
    rw [List.drop_eq_getElem_cons hlt]
    by_cases h : l[i].f0.data.toList = p.data.toList
    · refine Ev.pos h ?_
      have h2 : kb pk l[i] = p.data.toList := h
      rw [wo_eq h2]
      exact ih (i + 1) o (by omega) (by omega)
    · refine Ev.neg h (Ev.pos (by omega) ?_)
      have h2 : ¬ kb pk l[i] = p.data.toList := h
      rw [wo_ne h2, app_one _ _ (withoutM _ _ _)]
      exact ih (i + 1) (o ++ [l[i]]) (by omega) (by simp; omega)
theorem specWithout_ev (l : List S77) (hl : l.length ≤ 100000000) (p : ByteArray) : Ev (fun k => spec_l3Without.f k l p) (withoutM (kb pk) p.data.toList l) := by
  simp only [spec_l3Without.f]
  have := specWithout_l l hl p l.length 0 [] (by omega) (by simp)
  simpa using this
theorem specWith_done (l : List S77) (hl : l.length ≤ 100000000) (n : S77) (d : Nat) : ∀ (i : Nat) (o : List S77), i + d = l.length → o.length ≤ i + 1 → Ev (fun k => spec_l3With.l0 k l o true (i : Int) n.f0 n.f1 n.f2 n.f3 n.f4 n.f5 n.f6) (o ++ (l.drop i).filter fun y => decide (kb pk y ≠ kb pk n)) := by
  induction d with
  | zero =>
    intro i o hi _
    refine Ev.step (fun k => by simp only [spec_l3With.l0]; rw [if_neg (by omega), if_pos (by trivial)]) ?_
    rw [List.drop_of_length_le (by omega)]
    simp only [List.filter_nil, List.append_nil]
    exact Ev.now _
  | succ d ih =>
    intro i o hi ho
    have hlt : i < l.length := by omega
    have e := rdImp l i hlt
    refine Ev.step (fun k => by simp only [spec_l3With.l0]; rw [if_pos (by omega), if_pos (by trivial)]) ?_
    refine Ev.step (fun k => by simp only [spec_l3With.j1]; rw [if_neg (by simp), if_pos (by omega), if_pos (by omega), e, w64 (by omega) (by omega), Go.Lib.toList_data, Go.Lib.toList_data]) ?_
    rw [List.drop_eq_getElem_cons hlt]
    by_cases h : l[i].f0.data.toList = n.f0.data.toList
    · refine Ev.pos h ?_
      have h2 : kb pk l[i] = kb pk n := h
      rw [List.filter_cons_of_neg (by simp [h2])]
      exact ih (i + 1) o (by omega) (by omega)
    · refine Ev.neg h (Ev.pos (by omega) ?_)
      have h2 : kb pk l[i] ≠ kb pk n := h
      rw [List.filter_cons_of_pos (by simp [h2]), app_one _ _ (List.filter _ _)]
      exact ih (i + 1) (o ++ [l[i]]) (by omega) (by simp; omega)
theorem specWith_l (l : List S77) (hl : l.length ≤ 100000000) (n : S77) (d : Nat) : ∀ (i : Nat) (o : List S77), i + d = l.length → o.length ≤ i → Ev (fun k => spec_l3With.l0 k l o false (i : Int) n.f0 n.f1 n.f2 n.f3 n.f4 n.f5 n.f6) (o ++ withM (kb pk) n (l.drop i)) := by
  induction d with
  | zero =>
    intro i o hi _
    refine Ev.step (fun k => by simp only [spec_l3With.l0]; rw [if_neg (by omega), if_neg (by simp), if_pos (by omega)]) ?_
    rw [List.drop_of_length_le (by omega)]
    simp only [withM]
    exact Ev.now _
  | succ d ih =>
    intro i o hi ho
    have hlt : i < l.length := by omega
    have e := rdImp l i hlt
    refine Ev.step (fun k => by simp only [spec_l3With.l0]; rw [if_pos (by omega), if_neg (by simp), if_pos (by omega), e, Go.Lib.toList_data, Go.Lib.toList_data]) ?_
    rw [List.drop_eq_getElem_cons hlt, withM]
    by_cases hb : Go.Op.bytesLess l[i].f0.data.toList n.f0.data.toList = true
    · have hle : ¬ kb pk n ≤ kb pk l[i] := fun c => c (bless _ _ hb)
      rw [if_neg hle]
      have hne : ¬ l[i].f0.data.toList = n.f0.data.toList := fun c => hle (by unfold kb pk; rw [c]; exact List.le_refl _)
      refine Ev.step (fun k => by simp only [spec_l3With.j1]; rw [hb, if_neg (by simp), if_pos (by omega), if_pos (by omega), e, w64 (by omega) (by omega), Go.Lib.toList_data, Go.Lib.toList_data, if_neg hne, if_pos (by omega)]) ?_
      rw [app_one _ _ (withM _ _ _)]
      exact ih (i + 1) (o ++ [l[i]]) (by omega) (by simp; omega)
    · have hle : kb pk n ≤ kb pk l[i] := fun c => hb (bless_of _ _ c)
      rw [if_pos hle]
      replace hb := Bool.eq_false_iff.mpr hb
      have hd := specWith_done l hl n d
      refine Ev.step (fun k => by simp only [spec_l3With.j1]; rw [hb, if_pos (by rfl), if_pos (by omega)]) ?_
      refine Ev.bindS rfl (Ev.congr (fun k => by rw [if_pos (by omega), if_pos (by omega), e, w64 (by omega) (by omega), Go.Lib.toList_data, Go.Lib.toList_data]) ?_)
      by_cases h : l[i].f0.data.toList = n.f0.data.toList
      · refine Ev.pos h ?_
        have h2 : kb pk l[i] = kb pk n := h
        rw [List.filter_cons_of_neg (by simp [h2]), app_one _ _ (List.filter _ _)]
        exact hd (i + 1) (o ++ [n]) (by omega) (by simp; omega)
      · refine Ev.neg h (Ev.pos (by simp; omega) ?_)
        have h2 : kb pk l[i] ≠ kb pk n := h
        rw [List.filter_cons_of_pos (by simp [h2]), app_one o n (_ :: List.filter _ _), app_one _ _ (List.filter _ _)]
        exact hd (i + 1) ((o ++ [n]) ++ [l[i]]) (by omega) (by simp; omega)
theorem specWith_ev (l : List S77) (hl : l.length ≤ 100000000) (n : S77) : Ev (fun k => spec_l3With.f k l n.f0 n.f1 n.f2 n.f3 n.f4 n.f5 n.f6) (withM (kb pk) n l) := by
  simp only [spec_l3With.f]
  have := specWith_l l hl n l.length 0 [] (by omega) (by simp)
  simpa using this
def dirty (x : S108) : Bool := !(x.f1.f1.toList == ([] : List UInt8)) || (!(x.f1.f2 == 0) || (!(x.f1.f3 == 0) || (!(x.f1.f4 == 0) || (!(x.f1.f5 == 0) || (!(x.f1.f6 == 0))))))
def lastOf (l : List S108) (i : Nat) : ByteArray := if i = 0 then (⟨#[]⟩ : ByteArray) else (rd_T108 l ((i : Int) - 1)).f1.f0
def okEFrom (l : List S108) : Nat → Bool
  | 0 => true
  | d + 1 => okNode (rd_T108 l ((l.length - (d + 1) : Nat) : Int)).f1 && Go.Op.bytesLess (lastOf l (l.length - (d + 1))).toList ((rd_T108 l ((l.length - (d + 1) : Nat) : Int)).f1.f0.toList) && !((rd_T108 l ((l.length - (d + 1) : Nat) : Int)).f0 && dirty (rd_T108 l ((l.length - (d + 1) : Nat) : Int))) && okEFrom l d
theorem rdEff (l : List S108) (i : Nat) (h : i < l.length) : rd_T108 l i = l[i] := by simp [rd_T108, h]
theorem okPath_ne (s : ByteArray) (h : okPath s = true) : Go.Op.bytesLess ((⟨#[]⟩ : ByteArray).toList) s.toList = true := by
  have hs : s.data.toList ≠ [] := by
    intro e
    unfold okPath at h
    rw [e, if_neg (by simp)] at h
    have : s.size = 0 := by rw [Go.Lib.size_eq, e]; rfl
    rw [this] at h
    simp at h
  obtain ⟨b, t, e⟩ := List.exists_cons_of_ne_nil hs
  rw [Go.Lib.toList_data, Go.Lib.toList_data, e]
  rfl
theorem implTxn_l (l : List S108) (hl : l.length ≤ 1048576) (hs : ∀ x ∈ l, x.f1.f0.size ≤ 1048576) (d : Nat) : ∀ (i : Nat), i + d = l.length → Ev (fun k => impl_ValidTxn.l0 k (lastOf l i) l (l.length : Int) i) (okEFrom l d) := by
  induction d with
  | zero => intro i hi; exact Ev.step (fun k => by simp only [impl_ValidTxn.l0]; exact if_neg (by omega)) (Ev.now _)
  | succ d ih =>
    intro i hi
    obtain rfl : i = l.length - (d + 1) := by omega
    have hi2 : l.length - (d + 1) < l.length := by omega
    have hn := ih (l.length - (d + 1) + 1) (by omega)
    have hlast : lastOf l (l.length - (d + 1) + 1) = (rd_T108 l ((l.length - (d + 1) : Nat) : Int)).f1.f0 := by
      unfold lastOf
      rw [if_neg (by omega), show ((l.length - (d + 1) + 1 : Nat) : Int) - 1 = ((l.length - (d + 1) : Nat) : Int) by omega]
    rw [hlast] at hn
    refine Ev.step (fun k => by simp only [impl_ValidTxn.l0]; rw [if_pos (by omega), if_pos (by omega), if_pos (by omega), w64 (by omega) (by omega)]) ?_
    simp only [okEFrom]
    have hx : (rd_T108 l ((l.length - (d + 1) : Nat) : Int)).f1.f0.size ≤ 1048576 := by rw [rdEff l _ hi2]; exact hs _ (List.getElem_mem _)
    refine Ev.bind (implNode_ev _ hx) ?_
    cases okNode (rd_T108 l ((l.length - (d + 1) : Nat) : Int)).f1 with
    | false => simp only [Bool.false_and]; exact Ev.neg (by simp) (Ev.now _)
    | true =>
      simp only [Bool.true_and]
      refine Ev.pos (by trivial) ?_
      cases hless : Go.Op.bytesLess (lastOf l (l.length - (d + 1))).toList ((rd_T108 l ((l.length - (d + 1) : Nat) : Int)).f1.f0.toList) with
      | false => simp only [Bool.false_and]; exact Ev.neg (by simp) (Ev.now _)
      | true =>
        simp only [Bool.true_and]
        refine Ev.pos (by trivial) ?_
        cases (rd_T108 l ((l.length - (d + 1) : Nat) : Int)).f0 with
        | false => simp only [Bool.false_and, Bool.not_false, Bool.true_and]; exact Ev.neg (by simp) hn
        | true =>
          simp only [Bool.true_and]
          refine Ev.pos (by trivial) ?_
          by_cases hd : dirty (rd_T108 l ((l.length - (d + 1) : Nat) : Int)) = true
          · rw [hd]; simp only [Bool.not_true, Bool.false_and]; exact Ev.pos hd (Ev.now _)
          · have hd' : dirty (rd_T108 l ((l.length - (d + 1) : Nat) : Int)) = false := by simpa using hd
            rw [hd']; simp only [Bool.not_false, Bool.true_and]; exact Ev.neg hd hn
theorem specTxn_l (z : Int) (l : List S108) (hl : l.length ≤ 1048576) (hs : ∀ x ∈ l, x.f1.f0.size ≤ 1048576) (d : Nat) : ∀ (i : Nat), i + d = l.length → Ev (fun k => spec_ValidTxn.l0 k i z l) (okEFrom l d) := by
  induction d with
  | zero => intro i hi; exact Ev.step (fun k => by simp only [spec_ValidTxn.l0]; exact if_neg (by omega)) (Ev.now _)
  | succ d ih =>
    intro i hi
    obtain rfl : i = l.length - (d + 1) := by omega
    have hi2 : l.length - (d + 1) < l.length := by omega
    have hn := ih (l.length - (d + 1) + 1) (by omega)
    refine Ev.step (fun k => by simp only [spec_ValidTxn.l0]; rw [if_pos (by omega), if_pos (by omega)]) ?_
    simp only [okEFrom]
    have hx : (rd_T108 l ((l.length - (d + 1) : Nat) : Int)).f1.f0.size ≤ 1048576 := by rw [rdEff l _ hi2]; exact hs _ (List.getElem_mem _)
    refine Ev.bind (specNode_ev _ hx) ?_
    cases hok : okNode (rd_T108 l ((l.length - (d + 1) : Nat) : Int)).f1 with
    | false => simp only [Bool.false_and]; exact Ev.neg (by simp) (Ev.step (fun k => by simp only [spec_ValidTxn.j2]; exact if_pos (by trivial)) (Ev.now _))
    | true =>
      simp only [Bool.true_and]
      refine Ev.pos (by trivial) ?_
      have tail : Ev (fun k => if (rd_T108 l ((l.length - (d + 1) : Nat) : Int)).f0 = true then (if dirty (rd_T108 l ((l.length - (d + 1) : Nat) : Int)) = true then some false else spec_ValidTxn.l0 k ((l.length - (d + 1) + 1 : Nat) : Int) z l) else spec_ValidTxn.l0 k ((l.length - (d + 1) + 1 : Nat) : Int) z l) (!((rd_T108 l ((l.length - (d + 1) : Nat) : Int)).f0 && dirty (rd_T108 l ((l.length - (d + 1) : Nat) : Int))) && okEFrom l d) := by
        cases (rd_T108 l ((l.length - (d + 1) : Nat) : Int)).f0 with
        | false => simp only [Bool.false_and, Bool.not_false, Bool.true_and]; exact Ev.neg (by simp) hn
        | true =>
          simp only [Bool.true_and]
          refine Ev.pos (by trivial) ?_
          by_cases hd : dirty (rd_T108 l ((l.length - (d + 1) : Nat) : Int)) = true
          · rw [hd]; simp only [Bool.not_true, Bool.false_and]; exact Ev.pos (by trivial) (Ev.now _)
          · have hd' : dirty (rd_T108 l ((l.length - (d + 1) : Nat) : Int)) = false := by simpa using hd
            rw [hd']; simp only [Bool.not_false, Bool.true_and]; exact Ev.neg (by simp) hn
      by_cases h0 : l.length - (d + 1) = 0
      · have hp : okPath (rd_T108 l ((l.length - (d + 1) : Nat) : Int)).f1.f0 = true := by
          simp only [okNode, Bool.and_eq_true] at hok
          exact hok.1.1.1.1.1.1
        have : lastOf l (l.length - (d + 1)) = ⟨#[]⟩ := by unfold lastOf; rw [if_pos h0]
        rw [this, okPath_ne _ hp, Bool.true_and]
        refine Ev.neg (by omega) (Ev.step (fun k => by simp only [spec_ValidTxn.j2]; rw [if_neg (by simp), w64 (by omega) (by omega)]) ?_)
        exact tail
      · have : lastOf l (l.length - (d + 1)) = (rd_T108 l (((l.length - (d + 1) : Nat) : Int) - 1)).f1.f0 := by unfold lastOf; rw [if_neg h0]
        rw [this]
        refine Ev.pos (by omega) (Ev.congr (fun k => by rw [w64 (by omega) (by omega)]) ?_)
        refine Ev.pos (by omega) (Ev.pos (by omega) ?_)
        cases Go.Op.bytesLess ((rd_T108 l (((l.length - (d + 1) : Nat) : Int) - 1)).f1.f0.toList) ((rd_T108 l ((l.length - (d + 1) : Nat) : Int)).f1.f0.toList) with
        | false => simp only [Bool.false_and]; exact Ev.step (fun k => by simp only [spec_ValidTxn.j2]; exact if_pos (by rfl)) (Ev.now _)
        | true =>
          rw [Bool.true_and]
          refine Ev.step (fun k => by simp only [spec_ValidTxn.j2]; rw [if_neg (by simp), w64 (by omega) (by omega)]) ?_
          exact tail
def okTxn (z : Int) (l : List S108) : Bool := decide (1 ≤ z) && decide (z ≤ 2147483647) && decide (l.length ≤ 1000) && okEFrom l l.length
theorem specTxn_ev (z : Int) (l : List S108) (hl : l.length ≤ 1048576) (hs : ∀ x ∈ l, x.f1.f0.size ≤ 1048576) : Ev (fun k => spec_ValidTxn.f k z l) (okTxn z l) := by
  simp only [spec_ValidTxn.f, okTxn]
  have j1 : Ev (fun k => spec_ValidTxn.j0 k true z l) false := Ev.step (fun k => by simp only [spec_ValidTxn.j0]; exact if_pos (by trivial)) (Ev.now _)
  by_cases h1 : z < 1
  · rw [decide_eq_false (p := 1 ≤ z) (by omega)]; simp only [Bool.false_and]; exact Ev.pos h1 j1
  rw [decide_eq_true (p := 1 ≤ z) (by omega)]
  refine Ev.neg h1 ?_
  by_cases h2 : z > 2147483647
  · rw [decide_eq_false (p := z ≤ 2147483647) (by omega)]; simp only [Bool.and_false, Bool.false_and]; exact Ev.pos h2 j1
  rw [decide_eq_true (p := z ≤ 2147483647) (by omega)]
  refine Ev.neg h2 ?_
  by_cases h3 : l.length ≤ 1000
  · rw [decide_eq_true h3, decide_eq_false (by omega)]
    simp only [Bool.true_and]
    exact Ev.step (fun k => by simp only [spec_ValidTxn.j0]; exact if_neg (by simp)) (specTxn_l z l hl hs l.length 0 (by omega))
  · rw [decide_eq_false h3, decide_eq_true (by omega)]; simp only [Bool.true_and, Bool.false_and]; exact j1
theorem implTxn_ev (z : Int) (l : List S108) (hl : l.length ≤ 1048576) (hs : ∀ x ∈ l, x.f1.f0.size ≤ 1048576) : Ev (fun k => impl_ValidTxn.f k z l) (okTxn z l) := by
  simp only [impl_ValidTxn.f, okTxn]
  have j1 : Ev (fun k => impl_ValidTxn.j0 k true z l) false := Ev.step (fun k => by simp only [impl_ValidTxn.j0]; exact if_pos (by trivial)) (Ev.now _)
  by_cases h1 : z < 1
  · rw [decide_eq_false (p := 1 ≤ z) (by omega)]; simp only [Bool.false_and]; exact Ev.pos h1 j1
  rw [decide_eq_true (p := 1 ≤ z) (by omega)]
  refine Ev.neg h1 ?_
  by_cases h2 : z > 2147483647
  · rw [decide_eq_false (p := z ≤ 2147483647) (by omega)]; simp only [Bool.and_false, Bool.false_and]; exact Ev.pos h2 j1
  rw [decide_eq_true (p := z ≤ 2147483647) (by omega)]
  refine Ev.neg h2 ?_
  by_cases h3 : l.length ≤ 1000
  · rw [decide_eq_true h3, decide_eq_false (by omega)]
    simp only [Bool.true_and]
    refine Ev.step (fun k => by simp only [impl_ValidTxn.j0]; exact if_neg (by simp)) ?_
    have := implTxn_l l hl hs l.length 0 (by omega)
    unfold lastOf at this
    rw [if_pos rfl] at this
    exact this
  · rw [decide_eq_false h3, decide_eq_true (by omega)]; simp only [Bool.true_and, Bool.false_and]; exact j1

def ef (e : S108) : Bool × S77 := (e.f0, e.f1)
def effsM (l : List S77) (es : List S108) : List S77 := (es.map ef).foldl (stepM (kb pk)) l
theorem specApply_l (z : Int) (es : List S108) (hes : es.length ≤ 1048576) (d : Nat) : ∀ (i : Nat) (c : List S77), i + d = es.length → c.length ≤ 1048576 + i → Ev (fun k => spec_ApplyTxn.l0 k c (i : Int) z es) (effsM c (es.drop i)) := by
  induction d with
  | zero =>
    intro i c hi _
    refine Ev.step (fun k => by simp only [spec_ApplyTxn.l0]; rw [if_neg (by omega)]) ?_
    rw [List.drop_of_length_le (by omega)]
    exact Ev.now _
  | succ d ih =>
    intro i c hi hc
    have hlt : i < es.length := by omega
    have e := rdEff es i hlt
    refine Ev.step (fun k => by simp only [spec_ApplyTxn.l0]; rw [if_pos (by omega), if_pos (by omega), e, w64 (by omega) (by omega)]) ?_
    rw [List.drop_eq_getElem_cons hlt]
    have e2 : effsM c (es[i] :: es.drop (i + 1)) = effsM (stepM (kb pk) c (ef es[i])) (es.drop (i + 1)) := rfl
    have hn := ih (i + 1) (stepM (kb pk) c (ef es[i])) (by omega) (by have := stepM_len (kb pk) c (ef es[i]); omega)
    rw [e2]
    by_cases h : es[i].f0 = true
    · have e3 : stepM (kb pk) c (ef es[i]) = withoutM (kb pk) es[i].f1.f0.data.toList c := by unfold stepM ef; rw [if_pos h]; rfl
      refine Ev.pos h (Ev.bind (specWithout_ev c (by omega) _) ?_)
      rw [← e3]; exact hn
    · have e3 : stepM (kb pk) c (ef es[i]) = withM (kb pk) es[i].f1 c := by unfold stepM ef; rw [if_neg h]
      refine Ev.neg h (Ev.bind (specWith_ev c (by omega) es[i].f1) ?_)
      rw [← e3]; exact hn
theorem without_none (l : List S77) (h : okTree l = true) : withoutM (kb pk) [] l = l := by
  refine List.filter_eq_self.mpr fun x hx => decide_eq_true fun e => ?_
  have h1 := bless _ _ (okPath_ne x.f0 ((okTree_all l h).1 x hx))
  rw [Go.Lib.toList_data, Go.Lib.toList_data, show x.f0.data.toList = [] from e] at h1
  exact List.lt_irrefl _ h1
def applyM (l : List S77) (z : Int) (es : List S108) : List S77 := if okTree l = true ∧ okTxn z es = true then effsM l es else []
theorem specApply_ev (l : List S77) (z : Int) (es : List S108) (hl : l.length ≤ 1048576) (hs : ∀ x ∈ l, x.f0.size ≤ 1048576) (hes : es.length ≤ 1048576) (hes2 : ∀ x ∈ es, x.f1.f0.size ≤ 1048576) : Ev (fun k => spec_ApplyTxn.f k l z es) (applyM l z es) := by
  simp only [spec_ApplyTxn.f]
  refine Ev.bind (specTree_ev l hl hs) ?_
  by_cases h1 : okTree l = true
  · refine Ev.pos h1 (Ev.bind (specTxn_ev z es hes hes2) ?_)
    by_cases h2 : okTxn z es = true
    · rw [h2]
      refine Ev.step (fun k => by simp only [spec_ApplyTxn.j0]; rw [if_neg (by simp)]) ?_
      have e1 := specWithout_ev l (by omega) ⟨#[]⟩
      rw [show ((⟨#[]⟩ : ByteArray).data.toList) = [] from rfl, without_none l h1] at e1
      refine Ev.bind e1 ?_
      have := specApply_l z es hes es.length 0 l (by omega) (by omega)
      rw [List.drop_zero] at this
      unfold applyM
      rw [if_pos ⟨h1, h2⟩]
      exact this
    · rw [Bool.eq_false_iff.mpr h2]
      refine Ev.step (fun k => by simp only [spec_ApplyTxn.j0]; rw [if_pos (by trivial)]) ?_
      unfold applyM
      rw [if_neg (fun c => h2 c.2)]
      exact Ev.now _
  · refine Ev.neg h1 (Ev.step (fun k => by simp only [spec_ApplyTxn.j0]; rw [if_pos (by trivial)]) ?_)
    unfold applyM
    rw [if_neg (fun c => h1 c.1)]
    exact Ev.now _
theorem gnew_e (l : List S77) : gnew l = newM pk l := rfl
theorem geffs_e (es : List S108) : ∀ m : List (ByteArray × S77), es.foldl geff m = (es.map ef).foldl (effM pk) m := by
  induction es with
  | nil => intro m; rfl
  | cons e es ih => intro m; exact ih _
theorem gtree_e (m : List (ByteArray × S77)) : gtree m = treeM z77 m := by
  unfold gtree gkeys treeM
  rw [List.map_map]
  rfl
theorem effsM_len (es : List S108) : ∀ l : List S77, (effsM l es).length ≤ l.length + es.length := by
  induction es with
  | nil => intro l; exact Nat.le_refl _
  | cons e es ih =>
    intro l
    have h1 := ih (stepM (kb pk) l (ef e))
    have h2 := stepM_len (kb pk) l (ef e)
    show (effsM (stepM (kb pk) l (ef e)) es).length ≤ _
    simp only [List.length_cons]; omega
theorem mem_stepM (l : List S77) (e : S108) : ∀ z ∈ stepM (kb pk) l (ef e), z = e.f1 ∨ z ∈ l := by
  intro z hz
  unfold stepM at hz
  split at hz
  · exact .inr (List.mem_filter.mp hz).1
  · exact mem_withM (kb pk) _ l z hz
theorem mem_effsM (es : List S108) : ∀ l : List S77, ∀ z ∈ effsM l es, z ∈ l ∨ ∃ e ∈ es, z = e.f1 := by
  induction es with
  | nil => intro l z hz; exact .inl hz
  | cons e es ih =>
    intro l z hz
    rcases ih (stepM (kb pk) l (ef e)) z hz with h | ⟨e2, h2, h3⟩
    · rcases mem_stepM l e z h with h | h
      · exact .inr ⟨e, by simp, h⟩
      · exact .inl h
    · exact .inr ⟨e2, by simp [h2], h3⟩
theorem okTree_asc (l : List S77) (h : okTree l = true) : asc (kb pk) l := (okTree_all l h).2
theorem grove_e (l : List S77) (es : List S108) (h : asc (kb pk) l) : (es.foldl geff (gnew l)).Perm (prs pk (effsM l es)) ∧ gtree (es.foldl geff (gnew l)) = effsM l es := by
  rw [geffs_e, gnew_e, newM_eq pk l h]
  have hp := effs_perm pk (es.map ef) (prs pk l) l (List.Perm.refl _) h
  refine ⟨hp.1, ?_⟩
  rw [gtree_e]
  exact treeM_eq pk _ _ _ hp.1 hp.2
theorem implApply_ev (l : List S77) (z : Int) (es : List S108) (hl : l.length ≤ 1048576) (hs : ∀ x ∈ l, x.f0.size ≤ 1048576) (hes : es.length ≤ 1048576) (hes2 : ∀ x ∈ es, x.f1.f0.size ≤ 1048576) : Ev (fun k => impl_ApplyTxn.f k l z es) (applyM l z es) := by
  simp only [impl_ApplyTxn.f]
  refine Ev.bind (implTree_ev l hl hs) ?_
  by_cases h1 : okTree l = true
  · refine Ev.pos h1 (Ev.bind (implTxn_ev z es hes hes2) ?_)
    by_cases h2 : okTxn z es = true
    · obtain ⟨hp, ht⟩ := grove_e l es (okTree_asc l h1)
      have hlen := effsM_len es l
      refine Ev.pos h2 (Ev.pos ⟨⟨by omega, by omega⟩, ?_, ?_⟩ ?_)
      · rw [hp.length_eq]; unfold prs; rw [List.length_map]
        have h3 : l.length ≤ 1000 := by
          simp only [okTree, Bool.and_eq_true, decide_eq_true_eq] at h1; exact h1.1
        have h4 : es.length ≤ 1000 := by
          simp only [okTxn, Bool.and_eq_true, decide_eq_true_eq] at h2; exact h2.1.2
        omega
      · rw [List.all_eq_true]
        intro p hp2
        obtain ⟨x, hx, rfl⟩ := List.mem_map.mp (hp.mem_iff.mp hp2)
        refine decide_eq_true ?_
        show x.f0.size ≤ maxLen
        rcases mem_effsM es l x hx with h | ⟨e, he, rfl⟩
        · have := hs x h; unfold maxLen; omega
        · have := hes2 e he; unfold maxLen; omega
      · unfold applyM
        rw [if_pos ⟨h1, h2⟩, ht]
        exact Ev.now _
    · refine Ev.neg h2 ?_
      unfold applyM
      rw [if_neg (fun c => h2 c.2)]
      exact Ev.now _
  · refine Ev.neg h1 ?_
    unfold applyM
    rw [if_neg (fun c => h1 c.1)]
    exact Ev.now _
theorem applyM_len (l : List S77) (z : Int) (es : List S108) : (applyM l z es).length ≤ 2000 := by
  unfold applyM
  split
  · next h =>
    have := effsM_len es l
    have h3 : l.length ≤ 1000 := by
      have h1 := h.1; simp only [okTree, Bool.and_eq_true, decide_eq_true_eq] at h1; exact h1.1
    have h4 : es.length ≤ 1000 := by
      have h2 := h.2; simp only [okTxn, Bool.and_eq_true, decide_eq_true_eq] at h2; exact h2.1.2
    omega
  · simp
theorem eqNode_e (x : S77) : laws_eqNode.f x.f0 x.f1 x.f2 x.f3 x.f4 x.f5 x.f6 x.f0 x.f1 x.f2 x.f3 x.f4 x.f5 x.f6 = some true := by
  simp [laws_eqNode.f]
def cvN (x : S171) : S77 := ⟨x.f0, x.f1, x.f2, x.f3, x.f4, x.f5, x.f6⟩
theorem szNode_e (x : S171) (a : Int) (h0 : x.f0.size ≤ 9223372036854775807) (h1 : x.f1.size ≤ 9223372036854775807) (ha : 0 ≤ a) (ha2 : a ≤ 281474976710656) : ∃ r, laws_szNode.f x.f0 x.f1 x.f2 x.f3 x.f4 x.f5 x.f6 a = some r ∧ (r = -1 ∨ 0 ≤ r ∧ r + x.f0.size + x.f1.size = a) := by
  simp only [laws_szNode.f]
  rw [w64 (x := a - (x.f0.size : Int)) (by omega) (by omega)]
  by_cases h : a - (x.f0.size : Int) < 0
  · exact ⟨-1, if_pos h, Or.inl rfl⟩
  rw [if_neg h, w64 (by omega) (by omega)]
  by_cases h2 : a - (x.f0.size : Int) - (x.f1.size : Int) < 0
  · exact ⟨-1, if_pos h2, Or.inl rfl⟩
  · exact ⟨_, if_neg h2, Or.inr ⟨by omega, by omega⟩⟩
theorem eqNodeS_l (l : List S77) (hl : l.length ≤ 281474976710656) (d : Nat) : ∀ (i : Nat), i + d = l.length → Ev (fun k => laws_eqNodeS.l0 k l l i) true := by
  induction d with
  | zero => intro i hi; exact Ev.step (fun k => by simp only [laws_eqNodeS.l0]; exact if_neg (by omega)) (Ev.now _)
  | succ d ih =>
    intro i hi
    refine Ev.step (fun k => by simp only [laws_eqNodeS.l0]; rw [if_pos (by omega), if_pos (by omega), if_pos (by omega), w64 (by omega) (by omega), eqNode_e, Option.bind_some]) ?_
    exact Ev.pos (by trivial) (ih (i + 1) (by omega))
theorem eqTree_ev (l : List S77) (hl : l.length ≤ 281474976710656) : Ev (fun k => laws_eqTree.f k l l) true := by
  simp only [laws_eqTree.f, laws_eqNodeS.f]
  exact Ev.bind (Ev.pos (by trivial) (eqNodeS_l l hl l.length 0 (by omega))) (Ev.pos (by trivial) (Ev.now _))
theorem toNodeS_l (l : List S171) (hl : l.length ≤ 281474976710656) (d : Nat) : ∀ (i : Nat) (y : List S77), i + d = l.length → y.length = l.length → y.take i = (l.map cvN).take i → Ev (fun k => laws_toNodeS.l0 k l y i) (l.map cvN) := by
  induction d with
  | zero =>
    intro i y hi hy ht
    refine Ev.step (fun k => by simp only [laws_toNodeS.l0]; exact if_neg (by omega)) ?_
    rw [List.take_of_length_le (by omega), List.take_of_length_le (by simp; omega)] at ht
    rw [ht]; exact Ev.now _
  | succ d ih =>
    intro i y hi hy ht
    refine Ev.step (fun k => by simp only [laws_toNodeS.l0]; rw [if_pos (by omega), if_pos (by omega), w64 (by omega) (by omega), Int.toNat_natCast]) ?_
    have e : rd_T171 l i = l[i] := by simp [rd_T171, show i < l.length by omega]
    rw [e]
    simp only [laws_toNode.f, Option.bind_some]
    refine Ev.pos (by omega) (ih (i + 1) _ (by omega) (by simpa using hy) ?_)
    rw [List.take_add_one, List.take_add_one, List.take_set_of_le (by omega), ht]
    simp [hy, show i < l.length by omega, cvN]
theorem toTree_ev (l : List S171) (hl : l.length ≤ 1048576) : Ev (fun k => laws_toTree.f k l) (l.map cvN) := by
  simp only [laws_toTree.f, laws_toNodeS.f]
  exact Ev.bind (Ev.pos (by omega) (Ev.pos (by omega) (toNodeS_l l (by omega) l.length 0 _ (by omega) (by simp) (by simp)))) (Ev.now _)
theorem szNodeS_l (l : List S171) (hl : l.length ≤ 9223372036854775807) (hb : ∀ x ∈ l, x.f0.size ≤ 9223372036854775807 ∧ x.f1.size ≤ 9223372036854775807) (d : Nat) : ∀ (i : Nat) (a : Int), i + d = l.length → 0 ≤ a → a ≤ 281474976710656 → ∃ r, Ev (fun k => laws_szNodeS.l0 k l a i) r ∧ (r = -1 ∨ 0 ≤ r ∧ r ≤ a ∧ ∀ x ∈ l.drop i, (x.f0.size : Int) ≤ a ∧ (x.f1.size : Int) ≤ a) := by
  induction d with
  | zero =>
    intro i a hi h0 h1
    exact ⟨a, Ev.step (fun k => by simp only [laws_szNodeS.l0]; exact if_neg (by omega)) (Ev.now _), Or.inr ⟨h0, by omega, by rw [List.drop_of_length_le (by omega)]; simp⟩⟩
  | succ d ih =>
    intro i a hi h0 h1
    have e : rd_T171 l i = l[i] := by simp [rd_T171, show i < l.length by omega]
    have hbi := hb _ (List.getElem_mem (show i < l.length by omega))
    obtain ⟨r, er, hr⟩ := szNode_e l[i] a hbi.1 hbi.2 h0 h1
    have st : ∀ k, laws_szNodeS.l0 (k + 1) l a i = (if r < 0 then (some (-1)) else (laws_szNodeS.l0 k l r ((i + 1 : Nat) : Int))) := by
      intro k
      simp only [laws_szNodeS.l0]
      rw [if_pos (by omega), if_pos (by omega), e, er, Option.bind_some, w64 (by omega) (by omega)]; rfl
    rcases hr with rfl | ⟨h2, h3⟩
    · exact ⟨-1, Ev.step st (Ev.pos (by omega) (Ev.now _)), Or.inl rfl⟩
    · obtain ⟨r2, e2, h4⟩ := ih (i + 1) r (by omega) h2 (by omega)
      refine ⟨r2, Ev.step st (Ev.neg (by omega) e2), ?_⟩
      rcases h4 with h4 | ⟨h6, h7, h8⟩
      · exact Or.inl h4
      · refine Or.inr ⟨h6, by omega, ?_⟩
        rw [List.drop_eq_getElem_cons (by omega)]
        intro x hx
        rcases List.mem_cons.mp hx with rfl | hx
        · constructor <;> omega
        · have := h8 x hx; constructor <;> omega
theorem szTree_ev (l : List S171) (a : Int) (hl : l.length ≤ 9223372036854775807) (hb : ∀ x ∈ l, x.f0.size ≤ 9223372036854775807 ∧ x.f1.size ≤ 9223372036854775807) (ha : 0 ≤ a) (ha2 : a ≤ 281474976710656) : ∃ r, Ev (fun k => laws_szTree.f k l a) r ∧ (r = -1 ∨ 0 ≤ r ∧ r + l.length ≤ a ∧ ∀ x ∈ l, (x.f0.size : Int) ≤ a ∧ (x.f1.size : Int) ≤ a) := by
  by_cases h : a - (l.length : Int) < 0
  · refine ⟨-1, ?_, Or.inl rfl⟩
    simp only [laws_szTree.f, laws_szNodeS.f]
    rw [w64 (by omega) (by omega)]
    exact Ev.bind (Ev.pos h (Ev.now _)) (Ev.pos (by omega) (Ev.now _))
  · obtain ⟨r, e, h2⟩ := szNodeS_l l hl hb l.length 0 (a - (l.length : Int)) (by omega) (by omega) (by omega)
    refine ⟨r, ?_, ?_⟩
    rotate_left
    · rcases h2 with h2 | ⟨h3, h4, h5⟩
      · exact Or.inl h2
      · exact Or.inr ⟨h3, by omega, fun x hx => by have := h5 x (by simpa using hx); constructor <;> omega⟩
    simp only [laws_szTree.f, laws_szNodeS.f]
    rw [w64 (by omega) (by omega)]
    refine Ev.bind (Ev.neg h e) ?_
    rcases h2 with rfl | ⟨h3, _⟩
    · exact Ev.pos (by omega) (Ev.now _)
    · exact Ev.neg (by omega) (Ev.now _)
def cvE (x : S174) : S108 := ⟨x.f0, cvN x.f1⟩
theorem toEffectS_l (l : List S174) (hl : l.length ≤ 281474976710656) (d : Nat) : ∀ (i : Nat) (y : List S108), i + d = l.length → y.length = l.length → y.take i = (l.map cvE).take i → Ev (fun k => laws_toEffectS.l0 k l y i) (l.map cvE) := by
  induction d with
  | zero =>
    intro i y hi hy ht
    refine Ev.step (fun k => by simp only [laws_toEffectS.l0]; exact if_neg (by omega)) ?_
    rw [List.take_of_length_le (by omega), List.take_of_length_le (by simp; omega)] at ht
    rw [ht]; exact Ev.now _
  | succ d ih =>
    intro i y hi hy ht
    refine Ev.step (fun k => by simp only [laws_toEffectS.l0]; rw [if_pos (by omega), if_pos (by omega), w64 (by omega) (by omega), Int.toNat_natCast]) ?_
    have e : rd_T174 l i = l[i] := by simp [rd_T174, show i < l.length by omega]
    rw [e]
    simp only [laws_toEffect.f, laws_toNode.f, Option.bind_some]
    refine Ev.pos (by omega) (ih (i + 1) _ (by omega) (by simpa using hy) ?_)
    rw [List.take_add_one, List.take_add_one, List.take_set_of_le (by omega), ht]
    simp [hy, show i < l.length by omega, cvE, cvN]
theorem toTxn_ev (z : Int) (l : List S174) (hl : l.length ≤ 1048576) : Ev (fun k => laws_toTxn.f k z l) (z, l.map cvE) := by
  simp only [laws_toTxn.f, laws_toEffectS.f]
  exact Ev.bind (Ev.pos (by omega) (Ev.pos (by omega) (toEffectS_l l (by omega) l.length 0 _ (by omega) (by simp) (by simp)))) (Ev.now _)
theorem szEffect_e (x : S174) (a : Int) (h0 : x.f1.f0.size ≤ 9223372036854775807) (h1 : x.f1.f1.size ≤ 9223372036854775807) (ha : 0 ≤ a) (ha2 : a ≤ 281474976710656) : ∃ r, laws_szEffect.f x.f0 x.f1.f0 x.f1.f1 x.f1.f2 x.f1.f3 x.f1.f4 x.f1.f5 x.f1.f6 a = some r ∧ (r = -1 ∨ 0 ≤ r ∧ r + x.f1.f0.size + x.f1.f1.size = a) := by
  obtain ⟨r, e, h⟩ := szNode_e x.f1 a h0 h1 ha ha2
  simp only [laws_szEffect.f]
  rw [e, Option.bind_some]
  rcases h with rfl | ⟨h2, h3⟩
  · exact ⟨-1, if_pos (by omega), Or.inl rfl⟩
  · exact ⟨r, if_neg (by omega), Or.inr ⟨h2, h3⟩⟩
theorem szEffectS_l (l : List S174) (hl : l.length ≤ 9223372036854775807) (hb : ∀ x ∈ l, x.f1.f0.size ≤ 9223372036854775807 ∧ x.f1.f1.size ≤ 9223372036854775807) (d : Nat) : ∀ (i : Nat) (a : Int), i + d = l.length → 0 ≤ a → a ≤ 281474976710656 → ∃ r, Ev (fun k => laws_szEffectS.l0 k l a i) r ∧ (r = -1 ∨ 0 ≤ r ∧ r ≤ a ∧ ∀ x ∈ l.drop i, (x.f1.f0.size : Int) ≤ a ∧ (x.f1.f1.size : Int) ≤ a) := by
  induction d with
  | zero =>
    intro i a hi h0 h1
    exact ⟨a, Ev.step (fun k => by simp only [laws_szEffectS.l0]; exact if_neg (by omega)) (Ev.now _), Or.inr ⟨h0, by omega, by rw [List.drop_of_length_le (by omega)]; simp⟩⟩
  | succ d ih =>
    intro i a hi h0 h1
    have e : rd_T174 l i = l[i] := by simp [rd_T174, show i < l.length by omega]
    have hbi := hb _ (List.getElem_mem (show i < l.length by omega))
    obtain ⟨r, er, hr⟩ := szEffect_e l[i] a hbi.1 hbi.2 h0 h1
    have st : ∀ k, laws_szEffectS.l0 (k + 1) l a i = (if r < 0 then (some (-1)) else (laws_szEffectS.l0 k l r ((i + 1 : Nat) : Int))) := by
      intro k
      simp only [laws_szEffectS.l0]
      rw [if_pos (by omega), if_pos (by omega), e, er, Option.bind_some, w64 (by omega) (by omega)]; rfl
    rcases hr with rfl | ⟨h2, h3⟩
    · exact ⟨-1, Ev.step st (Ev.pos (by omega) (Ev.now _)), Or.inl rfl⟩
    · obtain ⟨r2, e2, h4⟩ := ih (i + 1) r (by omega) h2 (by omega)
      refine ⟨r2, Ev.step st (Ev.neg (by omega) e2), ?_⟩
      rcases h4 with h4 | ⟨h6, h7, h8⟩
      · exact Or.inl h4
      · refine Or.inr ⟨h6, by omega, ?_⟩
        rw [List.drop_eq_getElem_cons (by omega)]
        intro x hx
        rcases List.mem_cons.mp hx with rfl | hx
        · constructor <;> omega
        · have := h8 x hx; constructor <;> omega
theorem szTxn_ev (z : Int) (l : List S174) (a : Int) (hl : l.length ≤ 9223372036854775807) (hb : ∀ x ∈ l, x.f1.f0.size ≤ 9223372036854775807 ∧ x.f1.f1.size ≤ 9223372036854775807) (ha : 0 ≤ a) (ha2 : a ≤ 281474976710656) : ∃ r, Ev (fun k => laws_szTxn.f k z l a) r ∧ (r = -1 ∨ 0 ≤ r ∧ r + l.length ≤ a ∧ ∀ x ∈ l, (x.f1.f0.size : Int) ≤ a ∧ (x.f1.f1.size : Int) ≤ a) := by
  by_cases h : a - (l.length : Int) < 0
  · refine ⟨-1, ?_, Or.inl rfl⟩
    simp only [laws_szTxn.f, laws_szEffectS.f]
    rw [w64 (by omega) (by omega)]
    exact Ev.bind (Ev.pos h (Ev.now _)) (Ev.pos (by omega) (Ev.now _))
  · obtain ⟨r, e, h2⟩ := szEffectS_l l hl hb l.length 0 (a - (l.length : Int)) (by omega) (by omega) (by omega)
    refine ⟨r, ?_, ?_⟩
    rotate_left
    · rcases h2 with h2 | ⟨h3, h4, h5⟩
      · exact Or.inl h2
      · exact Or.inr ⟨h3, by omega, fun x hx => by have := h5 x (by simpa using hx); constructor <;> omega⟩
    simp only [laws_szTxn.f, laws_szEffectS.f]
    rw [w64 (by omega) (by omega)]
    refine Ev.bind (Ev.neg h e) ?_
    rcases h2 with rfl | ⟨h3, _⟩
    · exact Ev.pos (by omega) (Ev.now _)
    · exact Ev.neg (by omega) (Ev.now _)
theorem eqEffect_e (x : S108) : laws_eqEffect.f x.f0 x.f1.f0 x.f1.f1 x.f1.f2 x.f1.f3 x.f1.f4 x.f1.f5 x.f1.f6 x.f0 x.f1.f0 x.f1.f1 x.f1.f2 x.f1.f3 x.f1.f4 x.f1.f5 x.f1.f6 = some true := by
  simp only [laws_eqEffect.f]
  rw [if_neg (by simp), eqNode_e, Option.bind_some, if_pos rfl]
theorem eqEffectS_l (l : List S108) (hl : l.length ≤ 281474976710656) (d : Nat) : ∀ (i : Nat), i + d = l.length → Ev (fun k => laws_eqEffectS.l0 k l l i) true := by
  induction d with
  | zero => intro i hi; exact Ev.step (fun k => by simp only [laws_eqEffectS.l0]; exact if_neg (by omega)) (Ev.now _)
  | succ d ih =>
    intro i hi
    refine Ev.step (fun k => by simp only [laws_eqEffectS.l0]; rw [if_pos (by omega), if_pos (by omega), if_pos (by omega), w64 (by omega) (by omega), eqEffect_e, Option.bind_some]) ?_
    exact Ev.pos (by trivial) (ih (i + 1) (by omega))
theorem eqTxn_ev (z : Int) (l : List S108) (hl : l.length ≤ 281474976710656) : Ev (fun k => laws_eqTxn.f k z l z l) true := by
  simp only [laws_eqTxn.f, laws_eqEffectS.f]
  exact Ev.pos (by trivial) (Ev.bind (Ev.pos (by trivial) (eqEffectS_l l hl l.length 0 (by omega))) (Ev.pos (by trivial) (Ev.now _)))

theorem Ex.step {α : Type} {g f : Nat → Option α} {Q : α → Prop} (hs : ∀ k, g (k + 1) = f k) (h : ∃ r, Q r ∧ Ev f r) : ∃ r, Q r ∧ Ev g r := by obtain ⟨r, q, e⟩ := h; exact ⟨r, q, Ev.step hs e⟩
theorem Ex.bind {α β : Type} {g : Nat → Option α} {f : Nat → α → Option β} {a : α} {Q : β → Prop} (h : Ev g a) (k : ∃ r, Q r ∧ Ev (fun n => f n a) r) : ∃ r, Q r ∧ Ev (fun n => (g n).bind (f n)) r := by obtain ⟨r, q, e⟩ := k; exact ⟨r, q, Ev.bind h e⟩
theorem Ex.pos {α : Type} {c : Prop} [Decidable c] {f g : Nat → Option α} {Q : α → Prop} (hc : c) (h : ∃ r, Q r ∧ Ev f r) : ∃ r, Q r ∧ Ev (fun n => if c then f n else g n) r := by obtain ⟨r, q, e⟩ := h; exact ⟨r, q, Ev.pos hc e⟩
theorem Ex.neg {α : Type} {c : Prop} [Decidable c] {f g : Nat → Option α} {Q : α → Prop} (hc : ¬c) (h : ∃ r, Q r ∧ Ev g r) : ∃ r, Q r ∧ Ev (fun n => if c then f n else g n) r := by obtain ⟨r, q, e⟩ := h; exact ⟨r, q, Ev.neg hc e⟩
theorem Ex.set {α β : Type} {x : List α} {j : Nat} {v : α} {f : Nat → List α → Option β} {Q : β → Prop} (h : ∀ y : List α, y.length = x.length → ∃ r, Q r ∧ Ev (fun n => f n y) r) : ∃ r, Q r ∧ Ev (fun n => (some (x.set j v)).bind (f n)) r := by obtain ⟨r, q, e⟩ := h (x.set j v) (by simp); exact ⟨r, q, Ev.bindS rfl e⟩
theorem Ex.now {α : Type} {Q : α → Prop} (r : α) (h : Q r) : ∃ r, Q r ∧ Ev (fun _ => some r) r := ⟨r, h, Ev.now r⟩
theorem nums_size1 (x : Int) : (strOfNums [x]).size = 1 := rfl
theorem markText_l (n : Nat) : ∀ (a : Nat) (x : ByteArray), a < 10 ^ n → n ≤ 1000 → a ≤ 4611686018427387904 → x.size + n ≤ 1000000 → ∃ r : ByteArray, True ∧ Ev (fun k => laws_markText.l0 k a x) r := by
  induction n with
  | zero =>
    intro a x ha _ _ hx
    obtain rfl : a = 0 := by simpa using ha
    exact Ex.step (fun k => by simp only [laws_markText.l0]; rw [if_neg (by omega), if_pos (by omega)]) ⟨_, trivial, Ev.now _⟩
  | succ n ih =>
    intro a x ha hn ha2 hx
    by_cases h0 : a = 0
    · subst h0
      exact Ex.step (fun k => by simp only [laws_markText.l0]; rw [if_neg (by omega), if_pos (by omega)]) ⟨_, trivial, Ev.now _⟩
    · refine Ex.step (fun k => by simp only [laws_markText.l0, Option.bind_some]; rw [if_pos (by omega), show Int.tdiv (a : Int) 10 = ((a / 10 : Nat) : Int) from rfl, w64 (x := ((a / 10 : Nat) : Int)) (by omega) (by omega)]) ?_
      refine Ex.pos (by rw [nums_size1]; omega) ?_
      refine ih (a / 10) _ (by rw [Nat.pow_succ] at ha; omega) (by omega) (by omega) ?_
      rw [ByteArray.size_append, nums_size1]; omega
theorem markText_ev (a : Int) (h0 : 0 ≤ a) (h1 : a ≤ 4611686018427387904) : ∃ r : ByteArray, True ∧ Ev (fun k => laws_markText.f k a) r := by
  simp only [laws_markText.f]
  by_cases h : a ≤ 0
  · exact Ex.pos h ⟨_, trivial, Ev.now _⟩
  · refine Ex.neg h ?_
    obtain ⟨n, rfl⟩ := Int.eq_ofNat_of_zero_le h0
    refine markText_l 19 n _ (by omega) (by omega) (by omega) ?_
    show 0 + 19 ≤ _
    omega
theorem markNodeS_l (n : Nat) (hn : n ≤ 281474976710656) (d : Nat) : ∀ (i : Nat) (x : List S77) (a : Int), i + d = n → x.length = n → 0 ≤ a → a + 7 * d ≤ 1000000000000000 → ∃ r : Int × List S77, r.1 = a + 7 * d ∧ Ev (fun k => laws_markNodeS.l0 k x a i) r := by
  induction d with
  | zero =>
    intro i x a hi hx h0 h1
    exact Ex.step (fun k => by simp only [laws_markNodeS.l0]; exact if_neg (by omega)) ⟨(a, x), by simp, Ev.now _⟩
  | succ d ih =>
    intro i x a hi hx h0 h1
    obtain ⟨t1, _, e1⟩ := markText_ev a h0 (by omega)
    obtain ⟨t2, _, e2⟩ := markText_ev (a + 1) (by omega) (by omega)
    have g1 : (i : Int) < (x.length : Int) := by omega
    have g2 : 0 ≤ (i : Int) := by omega
    have g3 : i + 1 + d = n := by omega
    have g4 : 0 ≤ a + 1 + 1 + 1 + 1 + 1 + 1 + 1 := by omega
    have g5 : a + 1 + 1 + 1 + 1 + 1 + 1 + 1 + 7 * d ≤ 1000000000000000 := by omega
    have g6 : a + 1 + 1 + 1 + 1 + 1 + 1 + 1 + 7 * (d : Int) = a + 7 * ((d + 1 : Nat) : Int) := by omega
    obtain ⟨w1, w2, w3, w4, w5, w6, w7, w8⟩ : wrap64 (a + 1) = a + 1 ∧ wrap64 (a + 1 + 1) = a + 1 + 1 ∧ wrap64 (a + 1 + 1 + 1) = a + 1 + 1 + 1 ∧ wrap64 (a + 1 + 1 + 1 + 1) = a + 1 + 1 + 1 + 1 ∧ wrap64 (a + 1 + 1 + 1 + 1 + 1) = a + 1 + 1 + 1 + 1 + 1 ∧ wrap64 (a + 1 + 1 + 1 + 1 + 1 + 1) = a + 1 + 1 + 1 + 1 + 1 + 1 ∧ wrap64 (a + 1 + 1 + 1 + 1 + 1 + 1 + 1) = a + 1 + 1 + 1 + 1 + 1 + 1 + 1 ∧ wrap64 ((i : Int) + 1) = ((i + 1 : Nat) : Int) :=
      ⟨w64 (by omega) (by omega), w64 (by omega) (by omega), w64 (by omega) (by omega), w64 (by omega) (by omega), w64 (by omega) (by omega), w64 (by omega) (by omega), w64 (by omega) (by omega), w64 (by omega) (by omega)⟩
    refine Ex.step (fun k => by rw [laws_markNodeS.l0, if_pos g1]) ?_
    rw [w1, w2, w3, w4, w5, w6, w7, w8]
    clear w1 w2 w3 w4 w5 w6 w7 w8
    refine Ex.bind e1 ?_
    refine Ex.pos g2 ?_
    refine Ex.set fun y1 l1 => ?_
    refine Ex.bind e2 ?_
    refine Ex.set fun y2 l2 => ?_
    refine Ex.set fun y3 l3 => ?_
    refine Ex.set fun y4 l4 => ?_
    refine Ex.set fun y5 l5 => ?_
    refine Ex.set fun y6 l6 => ?_
    obtain ⟨r, hr, er⟩ := ih (i + 1) (y6.set (i : Int).toNat ⟨(rd_T77 y6 i).f0, (rd_T77 y6 i).f1, (rd_T77 y6 i).f2, (rd_T77 y6 i).f3, (rd_T77 y6 i).f4, (rd_T77 y6 i).f5, a + 1 + 1 + 1 + 1 + 1 + 1⟩) (a + 1 + 1 + 1 + 1 + 1 + 1 + 1) g3 (by rw [List.length_set, l6, l5, l4, l3, l2, l1, hx]) g4 g5
    exact ⟨r, hr.trans g6, er⟩
theorem markTree_ev (x : List S77) (hx : x.length ≤ 1048576) : ∃ r : Int × List S77, r.1 = 1 + 7 * (x.length : Int) ∧ Ev (fun k => laws_markTree.f k x 1) r := by
  obtain ⟨r, hr, e⟩ := markNodeS_l x.length (by omega) x.length 0 x 1 (by omega) rfl (by omega) (by omega)
  simp only [laws_markTree.f, laws_markNodeS.f]
  exact Ex.bind e ⟨(r.1, r.2), hr, Ev.now _⟩
theorem markEffectS_l (n : Nat) (hn : n ≤ 281474976710656) (d : Nat) : ∀ (i : Nat) (x : List S108) (a : Int), i + d = n → x.length = n → 0 ≤ a → a + 8 * d ≤ 1000000000000000 → ∃ r : Int × List S108, r.1 = a + 8 * d ∧ Ev (fun k => laws_markEffectS.l0 k x a i) r := by
  induction d with
  | zero =>
    intro i x a hi hx h0 h1
    exact Ex.step (fun k => by simp only [laws_markEffectS.l0]; exact if_neg (by omega)) ⟨(a, x), by simp, Ev.now _⟩
  | succ d ih =>
    intro i x a hi hx h0 h1
    obtain ⟨t1, _, e1⟩ := markText_ev (a + 1) (by omega) (by omega)
    obtain ⟨t2, _, e2⟩ := markText_ev (a + 1 + 1) (by omega) (by omega)
    have g1 : (i : Int) < (x.length : Int) := by omega
    have g2 : 0 ≤ (i : Int) := by omega
    have g3 : i + 1 + d = n := by omega
    have g4 : 0 ≤ a + 1 + 1 + 1 + 1 + 1 + 1 + 1 + 1 := by omega
    have g5 : a + 1 + 1 + 1 + 1 + 1 + 1 + 1 + 1 + 8 * d ≤ 1000000000000000 := by omega
    have g6 : a + 1 + 1 + 1 + 1 + 1 + 1 + 1 + 1 + 8 * (d : Int) = a + 8 * ((d + 1 : Nat) : Int) := by omega
    obtain ⟨w1, w2, w3, w4, w5, w6, w7, w8, w9⟩ : wrap64 (a + 1) = a + 1 ∧ wrap64 (a + 1 + 1) = a + 1 + 1 ∧ wrap64 (a + 1 + 1 + 1) = a + 1 + 1 + 1 ∧ wrap64 (a + 1 + 1 + 1 + 1) = a + 1 + 1 + 1 + 1 ∧ wrap64 (a + 1 + 1 + 1 + 1 + 1) = a + 1 + 1 + 1 + 1 + 1 ∧ wrap64 (a + 1 + 1 + 1 + 1 + 1 + 1) = a + 1 + 1 + 1 + 1 + 1 + 1 ∧ wrap64 (a + 1 + 1 + 1 + 1 + 1 + 1 + 1) = a + 1 + 1 + 1 + 1 + 1 + 1 + 1 ∧ wrap64 (a + 1 + 1 + 1 + 1 + 1 + 1 + 1 + 1) = a + 1 + 1 + 1 + 1 + 1 + 1 + 1 + 1 ∧ wrap64 ((i : Int) + 1) = ((i + 1 : Nat) : Int) :=
      ⟨w64 (by omega) (by omega), w64 (by omega) (by omega), w64 (by omega) (by omega), w64 (by omega) (by omega), w64 (by omega) (by omega), w64 (by omega) (by omega), w64 (by omega) (by omega), w64 (by omega) (by omega), w64 (by omega) (by omega)⟩
    refine Ex.step (fun k => by rw [laws_markEffectS.l0, if_pos g1]) ?_
    rw [w1, w2, w3, w4, w5, w6, w7, w8, w9]
    clear w1 w2 w3 w4 w5 w6 w7 w8 w9
    refine Ex.pos g2 ?_
    refine Ex.set fun y0 l0 => ?_
    refine Ex.bind e1 ?_
    refine Ex.set fun y1 l1 => ?_
    refine Ex.bind e2 ?_
    refine Ex.set fun y2 l2 => ?_
    refine Ex.set fun y3 l3 => ?_
    refine Ex.set fun y4 l4 => ?_
    refine Ex.set fun y5 l5 => ?_
    refine Ex.set fun y6 l6 => ?_
    obtain ⟨r, hr, er⟩ := ih (i + 1) (y6.set (i : Int).toNat ⟨(rd_T108 y6 i).f0, ⟨(rd_T108 y6 i).f1.f0, (rd_T108 y6 i).f1.f1, (rd_T108 y6 i).f1.f2, (rd_T108 y6 i).f1.f3, (rd_T108 y6 i).f1.f4, (rd_T108 y6 i).f1.f5, a + 1 + 1 + 1 + 1 + 1 + 1 + 1⟩⟩) (a + 1 + 1 + 1 + 1 + 1 + 1 + 1 + 1) g3 (by rw [List.length_set, l6, l5, l4, l3, l2, l1, l0, hx]) g4 g5
    exact ⟨r, hr.trans g6, er⟩
theorem mtext_ex : ∃ M : Int → ByteArray, ∀ a, 0 ≤ a → a ≤ 4611686018427387904 → Ev (fun k => laws_markText.f k a) (M a) := by
  refine ⟨fun a => if h : 0 ≤ a ∧ a ≤ 4611686018427387904 then Classical.choose (markText_ev a h.1 h.2) else ByteArray.empty, fun a h0 h1 => ?_⟩
  simp only [dif_pos (And.intro h0 h1)]
  exact (Classical.choose_spec (markText_ev a h0 h1)).2
def mkN (M : Int → ByteArray) (a : Int) : S77 := ⟨M a, M (a + 1), a + 1 + 1, a + 1 + 1 + 1, a + 1 + 1 + 1 + 1, a + 1 + 1 + 1 + 1 + 1, a + 1 + 1 + 1 + 1 + 1 + 1⟩
def mkL (M : Int → ByteArray) (n : Nat) : List S77 := (List.range n).map fun j => mkN M (1 + 7 * (j : Nat))
theorem w8 (a : Int) (i : Nat) (h0 : 0 ≤ a) (h1 : a ≤ 1000000000000000) (hi : i ≤ 281474976710656) : wrap64 (a + 1) = a + 1 ∧ wrap64 (a + 1 + 1) = a + 1 + 1 ∧ wrap64 (a + 1 + 1 + 1) = a + 1 + 1 + 1 ∧ wrap64 (a + 1 + 1 + 1 + 1) = a + 1 + 1 + 1 + 1 ∧ wrap64 (a + 1 + 1 + 1 + 1 + 1) = a + 1 + 1 + 1 + 1 + 1 ∧ wrap64 (a + 1 + 1 + 1 + 1 + 1 + 1) = a + 1 + 1 + 1 + 1 + 1 + 1 ∧ wrap64 (a + 1 + 1 + 1 + 1 + 1 + 1 + 1) = a + 1 + 1 + 1 + 1 + 1 + 1 + 1 ∧ wrap64 ((i : Int) + 1) = ((i + 1 : Nat) : Int) :=
  ⟨w64 (by omega) (by omega), w64 (by omega) (by omega), w64 (by omega) (by omega), w64 (by omega) (by omega), w64 (by omega) (by omega), w64 (by omega) (by omega), w64 (by omega) (by omega), w64 (by omega) (by omega)⟩
theorem markNodeS_x (M : Int → ByteArray) (hM : ∀ a, 0 ≤ a → a ≤ 4611686018427387904 → Ev (fun k => laws_markText.f k a) (M a)) (n : Nat) (hn : n ≤ 10000000) (d : Nat) : ∀ (i : Nat) (x : List S77) (a : Int), i + d = n → x.length = n → a = 1 + 7 * (i : Int) → (∀ j, j < i → x[j]? = some (mkN M (1 + 7 * (j : Int)))) → Ev (fun k => laws_markNodeS.l0 k x a i) (1 + 7 * (n : Int), mkL M n) := by
  induction d with
  | zero =>
    intro i x a hi hx ha hq
    have e : x = mkL M n := by
      apply List.ext_getElem?
      intro j
      by_cases hj : j < n
      · rw [hq j (by omega)]
        simp [mkL, hj]
      · rw [List.getElem?_eq_none (by omega), List.getElem?_eq_none (by simp [mkL]; omega)]
    rw [← e, show 1 + 7 * (n : Int) = a by omega]
    exact Ev.step (fun k => by simp only [laws_markNodeS.l0]; exact if_neg (by omega)) (Ev.now _)
  | succ d ih =>
    intro i x a hi hx ha hq
    have hlt : i < x.length := by omega
    have hrd : ∀ v, rd_T77 (x.set i v) (i : Int) = v := fun v => by simp [rd_T77, hlt]
    have g1 : (i : Int) < (x.length : Int) := by omega
    have g2 : 0 ≤ (i : Int) := by omega
    have m1 := hM a (by omega) (by omega)
    have m2 := hM (a + 1) (by omega) (by omega)
    have fin := ih (i + 1) (x.set i (mkN M a)) (a + 1 + 1 + 1 + 1 + 1 + 1 + 1) (by omega) (by rw [List.length_set, hx]) (by omega) (fun j hj => by
      by_cases hji : j = i
      · subst hji
        rw [List.getElem?_set_self hlt, ha]
      · rw [List.getElem?_set_ne (Ne.symm hji)]
        exact hq j (by omega))
    obtain ⟨w1, w2, w3, w4, w5, w6, w7, w8⟩ := w8 a i (by omega) (by omega) (by omega)
    refine Ev.step (fun k => by rw [laws_markNodeS.l0, if_pos g1]) ?_
    rw [w1, w2, w3, w4, w5, w6, w7, w8]
    clear w1 w2 w3 w4 w5 w6 w7 w8
    refine Ev.bind m1 (Ev.pos g2 (Ev.bindS rfl ?_))
    simp only [Int.toNat_natCast]
    refine Ev.bind m2 (Ev.bindS rfl ?_)
    simp only [hrd, List.set_set]
    refine Ev.bindS rfl ?_
    simp only [hrd, List.set_set]
    refine Ev.bindS rfl ?_
    simp only [hrd, List.set_set]
    refine Ev.bindS rfl ?_
    simp only [hrd, List.set_set]
    refine Ev.bindS rfl ?_
    simp only [hrd, List.set_set]
    exact fin
theorem heldNodeS_x (M : Int → ByteArray) (hM : ∀ a, 0 ≤ a → a ≤ 4611686018427387904 → Ev (fun k => laws_markText.f k a) (M a)) (n : Nat) (hn : n ≤ 10000000) (d : Nat) : ∀ (i : Nat) (a : Int), i + d = n → a = 1 + 7 * (i : Int) → Ev (fun k => laws_heldNodeS.l0 k (mkL M n) a i) (1 + 7 * (n : Int)) := by
  have hl : (mkL M n).length = n := by simp [mkL]
  induction d with
  | zero =>
    intro i a hi ha
    rw [show 1 + 7 * (n : Int) = a by omega]
    exact Ev.step (fun k => by simp only [laws_heldNodeS.l0]; exact if_neg (by omega)) (Ev.now _)
  | succ d ih =>
    intro i a hi ha
    have hrd : rd_T77 (mkL M n) (i : Int) = mkN M a := by
      rw [ha]
      simp [rd_T77, mkL, show i < n by omega]
    have g1 : (i : Int) < ((mkL M n).length : Int) := by omega
    have g2 : 0 ≤ (i : Int) := by omega
    have m1 := hM a (by omega) (by omega)
    have m2 := hM (a + 1) (by omega) (by omega)
    have fin := ih (i + 1) (a + 1 + 1 + 1 + 1 + 1 + 1 + 1) (by omega) (by omega)
    obtain ⟨w1, w2, w3, w4, w5, w6, w7, w8⟩ := w8 a i (by omega) (by omega) (by omega)
    refine Ev.step (fun k => by rw [laws_heldNodeS.l0, if_pos g1, if_pos g2]) ?_
    rw [w1, w2, w3, w4, w5, w6, w7, w8, hrd]
    clear w1 w2 w3 w4 w5 w6 w7 w8
    simp only [mkN]
    exact Ev.bind m1 (Ev.pos (by trivial) (Ev.bind m2 (Ev.pos (by trivial) (Ev.pos (by trivial) (Ev.pos (by trivial) (Ev.pos (by trivial) (Ev.pos (by trivial) (Ev.pos (by trivial) fin))))))))
theorem FnExactApplyTxn : laws_FnExactApplyTxn.Pure := by
  intro l z es hl _ he
  simp only [maxLen] at hl he
  apply Ev.rounds
  simp only [laws_FnExactApplyTxn.f]
  obtain ⟨r, e, h⟩ := szTree_ev l 1048576 (by have := hl.1; omega) (fun x hx => by have := hl.2 x hx; constructor <;> omega) (by omega) (by omega)
  refine Ev.bind e ?_
  by_cases hr : r < 0
  · exact Ev.pos hr (Ev.now _)
  refine Ev.neg hr ?_
  obtain ⟨h0, h1, h2⟩ : 0 ≤ r ∧ r + l.length ≤ 1048576 ∧ ∀ x ∈ l, (x.f0.size : Int) ≤ 1048576 ∧ (x.f1.size : Int) ≤ 1048576 := by
    rcases h with h | h
    · omega
    · exact h
  obtain ⟨r2, e2, h⟩ := szTxn_ev z es r (by have := he.1; omega) (fun x hx => by have := (he.2 x hx).2; constructor <;> omega) h0 (by omega)
  refine Ev.bind e2 ?_
  by_cases hr2 : r2 < 0
  · exact Ev.pos hr2 (Ev.now _)
  refine Ev.neg hr2 ?_
  obtain ⟨k0, k1, k2⟩ : 0 ≤ r2 ∧ r2 + es.length ≤ r ∧ ∀ x ∈ es, (x.f1.f0.size : Int) ≤ r ∧ (x.f1.f1.size : Int) ≤ r := by
    rcases h with h | h
    · omega
    · exact h
  have hm : ∀ x ∈ l.map cvN, x.f0.size ≤ 1048576 := by
    intro x hx; obtain ⟨y, hy, rfl⟩ := List.mem_map.mp hx; have := (h2 y hy).1; show y.f0.size ≤ _; omega
  have hme : ∀ x ∈ es.map cvE, x.f1.f0.size ≤ 1048576 := by
    intro x hx; obtain ⟨y, hy, rfl⟩ := List.mem_map.mp hx; have := (k2 y hy).1; show y.f1.f0.size ≤ _; omega
  have t := toTree_ev l (by omega)
  have u := toTxn_ev z es (by omega)
  have hml : (l.map cvN).length ≤ 1048576 := by simp; omega
  have hmel : (es.map cvE).length ≤ 1048576 := by simp; omega
  have ss := specApply_ev (l.map cvN) z (es.map cvE) hml hm hmel hme
  have si := implApply_ev (l.map cvN) z (es.map cvE) hml hm hmel hme
  have hlen := applyM_len (l.map cvN) z (es.map cvE)
  generalize applyM (l.map cvN) z (es.map cvE) = R at ss si hlen
  have eqR := eqTree_ev R (by omega)
  obtain ⟨m, hm1, em⟩ := markTree_ev (l.map cvN) hml
  obtain ⟨m2, hm2, em2⟩ := markEffectS_l (es.map cvE).length (by omega) (es.map cvE).length 0 (es.map cvE) m.1 (by omega) rfl (by omega) (by omega)
  have emx : Ev (fun k => laws_markTxn.f k z (es.map cvE) m.1) (m2.1, m2.2) := by
    simp only [laws_markTxn.f, laws_markEffectS.f]
    exact Ev.bind em2 (Ev.now _)
  obtain ⟨M, hM⟩ := mtext_ex
  have emR : Ev (fun k => laws_markTree.f k R 1) (1 + 7 * (R.length : Int), mkL M R.length) := by
    simp only [laws_markTree.f, laws_markNodeS.f]
    exact Ev.bind (markNodeS_x M hM R.length (by omega) R.length 0 R 1 (by omega) rfl (by omega) (fun j hj => absurd hj (Nat.not_lt_zero _))) (Ev.now _)
  have ehR : Ev (fun k => laws_heldTree.f k (mkL M R.length) 1) (1 + 7 * (R.length : Int)) := by
    simp only [laws_heldTree.f, laws_heldNodeS.f]
    exact Ev.bind (heldNodeS_x M hM R.length (by omega) R.length 0 1 (by omega) (by omega)) (Ev.neg (by omega) (Ev.now _))
  refine Ev.bind t (Ev.bind u (Ev.bind ss (Ev.bind t (Ev.bind u (Ev.bind si (Ev.bind eqR (Ev.pos (by trivial) ?_)))))))
  refine Ev.bind t (Ev.bind (eqTree_ev (l.map cvN) (by omega)) (Ev.pos (by trivial) (Ev.bind u (Ev.bind (eqTxn_ev z (es.map cvE) (by omega)) (Ev.pos (by trivial) (Ev.bind em (Ev.bind emx ?_)))))))
  refine Ev.neg (by show ¬ m2.1 < 0; omega) (Ev.bind eqR ?_)
  refine Ev.step (fun k => by simp only [laws_FnExactApplyTxn.j0]; exact if_neg (by simp)) ?_
  refine Ev.bind emR (Ev.bind ehR (Ev.neg (by omega) (Ev.pos rfl ?_)))
  exact Ev.bind t (Ev.bind u (Ev.bind si (Ev.bind eqR (Ev.pos (by trivial) (Ev.now _)))))

end Go.Proofs.YtfiojiokmkiflaaDoor.Pure
