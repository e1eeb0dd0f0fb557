/- What is proved: the law FnExactDecodeTxn returns true: at every list of bytes of at most 2^20 the program's DecodeTxn gives the reference's transaction, in memory of its own, and leaves its argument alone. Conditions: none but the listed variables' contents, which the card's tie pays. -/
import Derived.Test.YtejecjjimggjeaaDoorGFnExactDecodeTxnx13
import Derived.Lib.SplitLaws
import Derived.Lib.IndexBytes
import Derived.Lib.Bytes
namespace Go.Proofs.YtejecjjimggjeaaDoor.Pure
open Go.RowKit Go.Proofs.YtejecjjimggjeaaDoor.GFnExactDecodeTxn Go.Proofs.YtejecjjimggjeaaDoorW.PrintWords Go.Proofs.YtejecjjimggjeaaDoorW.PrintLast Go.Proofs.YtejecjjimggjeaaDoorW.PrintMore
set_option linter.unusedVariables false
set_option linter.unusedSimpArgs false

theorem w64 {x : Int} (h0 : -9223372036854775808 ≤ x) (h1 : x < 9223372036854775808) : wrap64 x = x := by unfold wrap64; omega
theorem u8_wf {x : Int} (h : (Lit.int .u8 x).wf = true) : 0 ≤ x ∧ x ≤ 255 := by
  simp [Lit.wf, IntKind.min, IntKind.max, IntKind.signed, IntKind.bits] at h
  omega
theorem Ev.pos {α : Type} {c : Prop} [Decidable c] {f g : Nat → Option α} {r : α} (hc : c) (h : Ev f r) : Ev (fun n => if c then f n else g n) r := Ev.congr (fun _ => if_pos hc) h
theorem Ev.neg {α : Type} {c : Prop} [Decidable c] {f g : Nat → Option α} {r : α} (hc : ¬c) (h : Ev g r) : Ev (fun n => if c then f n else g n) r := Ev.congr (fun _ => if_neg hc) h
theorem Ev.bindS {α β : Type} {g : Option α} {f : Nat → α → Option β} {a : α} {r : β} (h : g = some a) (k : Ev (fun n => f n a) r) : Ev (fun n => g.bind (f n)) r := Ev.congr (fun _ => by rw [h]; rfl) k
def consHead (b : UInt8) : List (List UInt8) → List (List UInt8)
  | [] => [[b]]
  | h :: t => (b :: h) :: t
def spl : List UInt8 → List (List UInt8)
  | [] => [[]]
  | b :: l => if b = 47 then [] :: spl l else consHead b (spl l)
def consPre (p : List UInt8) : List (List UInt8) → List (List UInt8)
  | [] => [p]
  | h :: t => (p ++ h) :: t
theorem spl_ne (l : List UInt8) : ∃ h t, spl l = h :: t := by
  cases l with
  | nil => exact ⟨[], [], rfl⟩
  | cons b l =>
    unfold spl
    split
    · exact ⟨_, _, rfl⟩
    · cases spl l <;> exact ⟨_, _, rfl⟩
theorem spl_sum (l : List UInt8) : ((spl l).map List.length).sum + (spl l).length = l.length + 1 := by
  induction l with
  | nil => rfl
  | cons b l ih =>
    unfold spl
    split
    · simp; omega
    · obtain ⟨h, t, e⟩ := spl_ne l
      rw [e] at ih ⊢
      simp [consHead] at ih ⊢; omega
theorem splitK_spl (l : List UInt8) : Go.Lib.splitK [47] 0 (Go.Lib.count l [47]) l = spl l := by
  induction l with
  | nil => rw [Go.Lib.count_miss (by rfl)]; rfl
  | cons b l ih =>
    unfold spl
    by_cases hb : b = 47
    · subst hb
      rw [if_pos rfl, Go.Lib.count_cons_eq, Nat.add_comm 1]
      have hi : Go.Lib.index (47 :: l) [47] = 0 := by rw [Go.Lib.index]; simp [List.isPrefixOf]
      unfold Go.Lib.splitK
      rw [hi]
      simp [ih]
    · rw [if_neg hb, Go.Lib.count_cons_ne b 47 l hb]
      have hi : Go.Lib.index (b :: l) [47] = if Go.Lib.index l [47] == -1 then -1 else Go.Lib.index l [47] + 1 := by
        rw [Go.Lib.index]
        have : ([47] : List UInt8).isPrefixOf (b :: l) = false := by simp [List.isPrefixOf, Ne.symm hb]
        rw [this]; simp
      rw [← ih]
      cases hc : Go.Lib.count l [47] with
      | zero => rfl
      | succ k =>
        have hm : ¬ Go.Lib.index l [47] = -1 := fun e => by rw [Go.Lib.count_miss e] at hc; omega
        have hge := Go.Lib.index_ge l [47]
        obtain ⟨j, hj⟩ : ∃ j : Nat, Go.Lib.index l [47] = j := ⟨(Go.Lib.index l [47]).toNat, by omega⟩
        unfold Go.Lib.splitK
        rw [hi, hj]
        have h1 : ¬ (((j : Nat) : Int) == -1) = true := by simp
        rw [if_neg h1, if_neg h1, if_neg (by simp; omega)]
        simp only [consHead]
        have h2 : ((j : Int) + 1).toNat = j + 1 := by omega
        rw [h2, Int.toNat_natCast]
        simp
theorem data_inj {a b : ByteArray} (h : a.data.toList = b.data.toList) : a = b := by
  obtain ⟨⟨l⟩⟩ := a
  obtain ⟨⟨m⟩⟩ := b
  simp at h
  rw [h]
theorem map_inj {xs ys : List ByteArray} (h : xs.map (fun s => s.data.toList) = ys.map (fun s => s.data.toList)) : xs = ys := by
  induction xs generalizing ys with
  | nil => cases ys with
    | nil => rfl
    | cons _ _ => simp at h
  | cons x xs ih => cases ys with
    | nil => simp at h
    | cons y ys =>
      simp only [List.map_cons, List.cons.injEq] at h
      rw [data_inj h.1, ih h.2]
/-- The pieces of a text between slashes. -/
def names (s : ByteArray) : List ByteArray := (spl s.data.toList).map fun l => ⟨l.toArray⟩
theorem names_data (s : ByteArray) : (names s).map (fun s => s.data.toList) = spl s.data.toList := by
  unfold names; rw [List.map_map]; simp [Function.comp_def]
theorem count_le (l : List UInt8) : Go.Lib.count l [47] ≤ l.length := by rw [Go.Lib.count_one]; exact List.count_le_length
theorem implSplit (s : ByteArray) (h : s.size ≤ 1000000) : strings_Split.f s (⟨#[47]⟩ : ByteArray) = some (names s) := by
  unfold strings_Split.f
  have hc : Go.Lib.countB s ⟨#[47]⟩ ≤ s.size := by
    show Go.Lib.count s.data.toList [47] ≤ _
    rw [Go.Lib.size_eq]; exact count_le _
  rw [if_pos ⟨by omega, by decide, by omega⟩]
  congr 1
  apply map_inj
  rw [names_data, Go.Lib.splitB_data]
  exact splitK_spl _
theorem bt_list (s : ByteArray) (i : Nat) (h : i < s.size) : ∃ b : UInt8, s.data.toList[i]? = some b ∧ bt s i = (b.toNat : Int) := by
  have hl : i < s.data.toList.length := by rw [← Go.Lib.size_eq]; exact h
  refine ⟨s.data.toList[i], List.getElem?_eq_getElem hl, ?_⟩
  unfold bt
  rw [dif_pos (by simpa using h)]
  congr 2
theorem specNames_l (s : ByteArray) (hs : s.size ≤ 1048576) (d : Nat) : ∀ (f i : Nat), f ≤ i → i + d = s.size → ∃ q : List ByteArray, q.map (fun s => s.data.toList) = consPre ((s.data.toList.drop f).take (i - f)) (spl (s.data.toList.drop i)) ∧ ∀ acc : List ByteArray, acc.length ≤ i + 1 → Ev (fun k => spec_l3Names.l0 k s acc f i) (acc ++ q) := by
  have hn : s.data.toList.length = s.size := (Go.Lib.size_eq s).symm
  induction d with
  | zero =>
    intro f i hf hi
    have hi' : i = s.size := by omega
    subst hi'
    refine ⟨[s.extract f s.size], ?_, fun acc ha => ?_⟩
    · rw [List.drop_of_length_le (l := s.data.toList) (i := s.size) (by omega)]
      simp [spl, consPre, Go.Lib.extract_data]
    · refine Ev.step (fun k => by simp only [spec_l3Names.l0]; rw [if_pos (by omega), if_pos (by trivial), if_pos (by omega), if_pos (by omega), if_pos (by omega), w64 (by omega) (by omega), Int.toNat_natCast, Int.toNat_natCast]) ?_
      exact Ev.step (fun k => by simp only [spec_l3Names.l0]; exact if_neg (by omega)) (Ev.now _)
  | succ d ih =>
    intro f i hf hi
    obtain ⟨b, hb, eb⟩ := bt_list s i (by omega)
    have hd : s.data.toList.drop i = b :: s.data.toList.drop (i + 1) := by
      rw [List.drop_eq_getElem_cons (by omega)]
      rw [List.getElem?_eq_getElem (by omega)] at hb
      rw [Option.some.inj hb]
    by_cases h47 : b = 47
    · obtain ⟨q, hq, he⟩ := ih (i + 1) (i + 1) (Nat.le_refl _) (by omega)
      refine ⟨s.extract f i :: q, ?_, fun acc ha => ?_⟩
      · rw [List.map_cons, hq, hd, h47]
        obtain ⟨x, t, e⟩ := spl_ne (s.data.toList.drop (i + 1))
        simp [spl, consPre, Go.Lib.extract_data, e]
      · refine Ev.step (fun k => by simp only [spec_l3Names.l0]; rw [if_pos (by omega), if_neg (by omega), if_pos (by omega), if_pos (by omega), eb, if_pos (by rw [h47]; rfl), if_pos (by omega), if_pos (by omega), if_pos (by omega), w64 (by omega) (by omega), Int.toNat_natCast, Int.toNat_natCast]) ?_
        have := he (acc ++ [s.extract f i]) (by simp; omega)
        rw [List.append_assoc] at this
        exact this
    · obtain ⟨q, hq, he⟩ := ih f (i + 1) (by omega) (by omega)
      refine ⟨q, ?_, fun acc ha => ?_⟩
      · rw [hq, hd]
        have h1 : spl (b :: s.data.toList.drop (i + 1)) = consHead b (spl (s.data.toList.drop (i + 1))) := by rw [spl, if_neg h47]
        obtain ⟨x, t, e⟩ := spl_ne (s.data.toList.drop (i + 1))
        rw [h1, e]
        simp only [consHead, consPre]
        congr 1
        rw [show i + 1 - f = (i - f) + 1 by omega, List.take_add_one, List.append_assoc]
        congr 1
        rw [List.getElem?_drop, show f + (i - f) = i by omega, hb]
        rfl
      · have hne : ¬ ((b.toNat : Int) = 47) := fun e => h47 (by
          have : b.toNat = 47 := by omega
          exact UInt8.toNat_inj.mp (by rw [this]; rfl))
        refine Ev.step (fun k => by simp only [spec_l3Names.l0]; rw [if_pos (by omega), if_neg (by omega), if_pos (by omega), if_pos (by omega), eb, if_neg hne, w64 (by omega) (by omega)]) ?_
        exact he acc (by omega)
theorem specNames_ev (s : ByteArray) (h1 : 1 ≤ s.size) (hs : s.size ≤ 1048576) : Ev (fun k => spec_l3Names.f k s) (names (s.extract 1 s.size)) := by
  obtain ⟨q, hq, he⟩ := specNames_l s hs (s.size - 1) 1 1 (Nat.le_refl _) (by omega)
  have e : q = names (s.extract 1 s.size) := by
    apply map_inj
    rw [names_data, hq, Go.Lib.extract_to_end]
    obtain ⟨x, t, e⟩ := spl_ne (s.data.toList.drop 1)
    rw [e]
    simp [consPre]
  rw [← e]
  simp only [spec_l3Names.f]
  exact he [] (by simp)

def letter (b : UInt8) : Bool := (decide (97 ≤ b.toNat) && decide (b.toNat ≤ 122)) || (decide (48 ≤ b.toNat) && decide (b.toNat ≤ 57))
def okName (s : ByteArray) : Bool := s.data.toList.all letter && decide (1 ≤ s.size) && decide (s.size ≤ 16)
theorem drop_cons (s : ByteArray) (i : Nat) (b : UInt8) (h : s.data.toList[i]? = some b) : s.data.toList.drop i = b :: s.data.toList.drop (i + 1) := by
  obtain ⟨hl, e⟩ := List.getElem?_eq_some_iff.1 h
  rw [List.drop_eq_getElem_cons hl, e]
theorem implName_l (s : ByteArray) (hs : s.size ≤ 1048576) (d : Nat) : ∀ (i : Nat), i + d = s.size → Ev (fun k => impl_validName.l0 k s (s.size : Int) i) ((s.data.toList.drop i).all letter && decide (1 ≤ s.size) && decide (s.size ≤ 16)) := by
  induction d with
  | zero =>
    intro i hi
    rw [List.drop_of_length_le (by rw [← Go.Lib.size_eq]; omega)]
    refine Ev.step (fun k => by simp only [impl_validName.l0]; exact if_neg (by omega)) ?_
    by_cases h1 : 1 ≤ s.size
    · refine Ev.pos (by omega) ?_
      rw [decide_eq_true h1]
      simp only [List.all_nil, Bool.true_and]
      refine Ev.congr (fun k => ?_) (Ev.now _)
      congr 1
      by_cases h2 : s.size ≤ 16
      · rw [decide_eq_true h2, decide_eq_true (by omega)]
      · rw [decide_eq_false h2, decide_eq_false (by omega)]
    · rw [decide_eq_false h1]
      simp only [List.all_nil, Bool.true_and, Bool.false_and]
      exact Ev.neg (by omega) (Ev.now _)
  | succ d ih =>
    intro i hi
    obtain ⟨b, hb, eb⟩ := bt_list s i (by omega)
    have hlt := b.toNat_lt
    rw [drop_cons s i b hb, List.all_cons]
    refine Ev.step (fun k => by simp only [impl_validName.l0]; rw [if_pos (by omega), if_pos (by omega), if_pos (by omega), eb, w64 (by omega) (by omega)]) ?_
    by_cases hl : letter b = true
    · rw [hl, Bool.true_and]
      have := ih (i + 1) (by omega)
      simp only [letter, Bool.or_eq_true, Bool.and_eq_true, decide_eq_true_eq] at hl
      by_cases c1 : (b.toNat : Int) < 97
      · exact Ev.pos c1 (Ev.neg (by omega) (Ev.neg (by omega) this))
      · exact Ev.neg c1 (Ev.neg (by omega) this)
    · have hl' : letter b = false := by simpa using hl
      rw [hl']
      simp only [Bool.false_and]
      simp only [letter, Bool.or_eq_true, Bool.and_eq_true, decide_eq_true_eq] at hl
      by_cases c1 : (b.toNat : Int) < 97
      · by_cases c2 : (b.toNat : Int) < 48
        · exact Ev.pos c1 (Ev.pos c2 (Ev.now _))
        · exact Ev.pos c1 (Ev.neg c2 (Ev.pos (by omega) (Ev.now _)))
      · exact Ev.neg c1 (Ev.pos (by omega) (Ev.neg (by omega) (Ev.pos (by omega) (Ev.now _))))
theorem implName_ev (s : ByteArray) (hs : s.size ≤ 1048576) : Ev (fun k => impl_validName.f k s) (okName s) := by
  simp only [impl_validName.f]
  exact implName_l s hs s.size 0 (by omega)
theorem specLetter_e (b : UInt8) : spec_l3Letter.f (b.toNat : Int) = some (letter b) := by
  simp only [spec_l3Letter.f]
  by_cases c1 : (b.toNat : Int) ≥ 97
  · rw [if_pos c1]
    by_cases c2 : (b.toNat : Int) ≤ 122
    · rw [if_pos c2]; congr 1; simp only [letter]; rw [decide_eq_true (by omega), decide_eq_true (by omega)]; rfl
    · rw [if_neg c2, if_pos (by omega)]
      congr 1; simp only [letter]; rw [decide_eq_false (by omega), decide_eq_false (p := b.toNat ≤ 122) (by omega), decide_eq_false (p := b.toNat ≤ 57) (by omega)]; simp
  · rw [if_neg c1]
    by_cases c3 : (b.toNat : Int) ≥ 48
    · rw [if_pos c3]
      congr 1; simp only [letter]; rw [decide_eq_false (p := 97 ≤ b.toNat) (by omega), decide_eq_true (p := 48 ≤ b.toNat) (by omega)]
      by_cases c4 : b.toNat ≤ 57
      · rw [decide_eq_true c4, decide_eq_true (by omega)]; rfl
      · rw [decide_eq_false c4, decide_eq_false (by omega)]; rfl
    · rw [if_neg c3]
      congr 1; simp only [letter]; rw [decide_eq_false (p := 97 ≤ b.toNat) (by omega), decide_eq_false (p := 48 ≤ b.toNat) (by omega)]; rfl
theorem rdN (l : List ByteArray) (i : Nat) (h : i < l.length) : rdOf ByteArray.empty l i = l[i] := by simp [rdOf, h]
theorem specName_1 (l : List ByteArray) (i : Nat) (hi : i < l.length) (hl : l.length ≤ 1048577) (hs : l[i].size ≤ 1048576) (r : Bool) (hk : l[i].data.toList.all letter = true → Ev (fun k => spec_ValidPath.l0 k l ((i + 1 : Nat) : Int)) r) (hf : l[i].data.toList.all letter = false → r = false) (d : Nat) : ∀ (j : Nat), j + d = l[i].size → (l[i].data.toList.take j).all letter = true → Ev (fun k => spec_ValidPath.l1 k l i j) r := by
  induction d with
  | zero =>
    intro j hj ht
    refine Ev.step (fun k => by simp only [spec_ValidPath.l1]; rw [if_pos (by omega), if_pos (by omega), rdN l i hi, if_neg (by omega), w64 (by omega) (by omega)]) ?_
    rw [List.take_of_length_le (by rw [← Go.Lib.size_eq]; omega)] at ht
    exact hk ht
  | succ d ih =>
    intro j hj ht
    obtain ⟨b, hb, eb⟩ := bt_list l[i] j (by omega)
    refine Ev.step (fun k => by simp only [spec_ValidPath.l1]; rw [if_pos (by omega), if_pos (by omega), rdN l i hi, if_pos (by omega), if_pos (by omega), eb, specLetter_e, Option.bind_some, w64 (by omega) (by omega)]) ?_
    by_cases hlb : letter b = true
    · refine Ev.pos hlb (ih (j + 1) (by omega) ?_)
      rw [List.take_add_one, hb, List.all_append, ht]
      simp [hlb]
    · refine Ev.neg hlb ?_
      have : r = false := by
        apply hf
        rw [← List.take_append_drop j l[i].data.toList, drop_cons _ j b hb, List.all_append, List.all_cons]
        simp [hlb]
      rw [this]; exact Ev.now _
theorem specAll_l (l : List ByteArray) (hl : l.length ≤ 1048577) (hs : ∀ x ∈ l, x.size ≤ 1048576) (d : Nat) : ∀ (i : Nat), i + d = l.length → Ev (fun k => spec_ValidPath.l0 k l i) ((l.drop i).all okName) := by
  induction d with
  | zero =>
    intro i hi
    rw [List.drop_of_length_le (by omega)]
    exact Ev.step (fun k => by simp only [spec_ValidPath.l0]; exact if_neg (by omega)) (Ev.now _)
  | succ d ih =>
    intro i hi
    rw [List.drop_eq_getElem_cons (by omega), List.all_cons]
    refine Ev.step (fun k => by simp only [spec_ValidPath.l0]; rw [if_pos (by omega), if_pos (by omega), rdN l i (by omega)]) ?_
    by_cases c1 : l[i].size < 1
    · have : okName l[i] = false := by simp only [okName]; rw [decide_eq_false (by omega)]; simp
      rw [this, Bool.false_and]
      exact Ev.pos (by omega) (Ev.step (fun k => by simp only [spec_ValidPath.j2]; exact if_pos (by trivial)) (Ev.now _))
    refine Ev.neg (by omega) ?_
    by_cases c2 : l[i].size ≤ 16
    · rw [decide_eq_false (by omega)]
      refine Ev.step (fun k => by simp only [spec_ValidPath.j2]; exact if_neg (by simp)) ?_
      refine specName_1 l i (by omega) hl (hs _ (List.getElem_mem _)) _ (fun h => ?_) (fun h => ?_) l[i].size 0 (by omega) (by simp)
      · have : okName l[i] = true := by simp only [okName, h]; rw [decide_eq_true (by omega), decide_eq_true c2]; rfl
        rw [this, Bool.true_and]
        exact ih (i + 1) (by omega)
      · have : okName l[i] = false := by simp only [okName, h]; rfl
        rw [this, Bool.false_and]
    · have : okName l[i] = false := by simp only [okName]; rw [decide_eq_false c2]; simp
      rw [this, Bool.false_and, decide_eq_true (by omega)]
      exact Ev.step (fun k => by simp only [spec_ValidPath.j2]; exact if_pos (by trivial)) (Ev.now _)
theorem implAll_l (l : List ByteArray) (hl : l.length ≤ 1048577) (hs : ∀ x ∈ l, x.size ≤ 1048576) (d : Nat) : ∀ (i : Nat), i + d = l.length → Ev (fun k => impl_ValidPath.l0 k l l (l.length : Int) i) ((l.drop i).all okName && decide (l.length ≤ 6)) := by
  induction d with
  | zero =>
    intro i hi
    rw [List.drop_of_length_le (by omega)]
    refine Ev.step (fun k => by simp only [impl_ValidPath.l0]; exact if_neg (by omega)) ?_
    simp only [List.all_nil, Bool.true_and]
    refine Ev.congr (fun k => ?_) (Ev.now _)
    congr 1
    by_cases h2 : l.length ≤ 6
    · rw [decide_eq_true h2, decide_eq_true (by omega)]
    · rw [decide_eq_false h2, decide_eq_false (by omega)]
  | succ d ih =>
    intro i hi
    rw [List.drop_eq_getElem_cons (by omega), List.all_cons]
    refine Ev.step (fun k => by simp only [impl_ValidPath.l0]; rw [if_pos (by omega), if_pos (by omega), if_pos (by omega), rdN l i (by omega), w64 (by omega) (by omega)]) ?_
    refine Ev.bind (implName_ev l[i] (hs _ (List.getElem_mem _))) ?_
    by_cases c : okName l[i] = true
    · rw [c, Bool.true_and]; exact Ev.pos (by trivial) (ih (i + 1) (by omega))
    · have c' : okName l[i] = false := by simpa using c
      rw [c']
      simp only [Bool.false_and]
      exact Ev.neg (by simp) (Ev.now _)
/-- What both answer. -/
def okPath (s : ByteArray) : Bool := if s.data.toList = [47] then true else decide (2 ≤ s.size) && decide (s.data.toList.head? = some 47) && decide ((names (s.extract 1 s.size)).length ≤ 6) && (names (s.extract 1 s.size)).all okName
theorem names_len (s : ByteArray) : (names s).length ≤ s.size + 1 := by
  have h := spl_sum s.data.toList
  have e := Go.Lib.size_eq s
  have e2 : (names s).length = (spl s.data.toList).length := by simp [names]
  omega
theorem names_size (s : ByteArray) : ∀ x ∈ names s, x.size ≤ s.size := by
  intro x hx
  obtain ⟨l, hl, rfl⟩ := List.mem_map.mp hx
  have h := spl_sum s.data.toList
  have h2 : ∀ (L : List (List UInt8)), l ∈ L → l.length ≤ (L.map List.length).sum := by
    intro L hm
    induction L with
    | nil => cases hm
    | cons a L ih =>
      rcases List.mem_cons.mp hm with rfl | hm
      · simp
      · have := ih hm; simp; omega
  have h3 := h2 _ hl
  obtain ⟨a, t, e⟩ := spl_ne s.data.toList
  have h4 : 1 ≤ (spl s.data.toList).length := by rw [e]; simp
  rw [Go.Lib.size_eq, Go.Lib.size_eq]
  show l.toArray.toList.length ≤ _
  simp at h ⊢; omega
theorem names_bound (s : ByteArray) (h1 : (names s).length ≤ 6) (h2 : (names s).all okName = true) : s.size ≤ 101 := by
  have h := spl_sum s.data.toList
  have h3 : ∀ (L : List (List UInt8)), (L.map fun l => (⟨l.toArray⟩ : ByteArray)).all okName = true → (L.map List.length).sum ≤ 16 * L.length := by
    intro L
    induction L with
    | nil => intro _; simp
    | cons a L ih =>
      intro hL
      simp only [List.map_cons, List.all_cons, Bool.and_eq_true] at hL
      have h5 := ih hL.2
      have h6 : a.length ≤ 16 := by
        have := hL.1
        simp only [okName, Bool.and_eq_true, decide_eq_true_eq] at this
        have := this.2
        rw [Go.Lib.size_eq] at this
        simpa using this
      simp only [List.map_cons, List.sum_cons, List.length_cons]
      omega
  have h7 := h3 _ h2
  have h8 : (spl s.data.toList).length ≤ 6 := by simpa [names] using h1
  rw [Go.Lib.size_eq]
  omega
theorem ext_size1 (s : ByteArray) : (s.extract 1 s.size).size = s.size - 1 := by rw [ByteArray.size_extract]; omega
theorem specPath_ev (s : ByteArray) (hs : s.size ≤ 1048576) : Ev (fun k => spec_ValidPath.f k s) (okPath s) := by
  simp only [spec_ValidPath.f]
  rw [Go.Lib.toList_data]
  unfold okPath
  by_cases h0 : s.data.toList = [47]
  · rw [if_pos h0]; exact Ev.pos h0 (Ev.now _)
  rw [if_neg h0]
  refine Ev.neg h0 ?_
  by_cases h1 : s.size < 2
  · rw [decide_eq_false (by omega)]
    simp only [Bool.false_and]
    exact Ev.pos (by omega) (Ev.step (fun k => by simp only [spec_ValidPath.j0]; exact if_pos (by trivial)) (Ev.now _))
  refine Ev.neg (by omega) (Ev.pos (by omega) ?_)
  obtain ⟨b, hb, eb⟩ := bt_list s 0 (by omega)
  have eb' : bt s 0 = (b.toNat : Int) := eb
  have hh : s.data.toList.head? = some b := by rw [List.head?_eq_getElem?]; exact hb
  rw [eb', hh, decide_eq_true (p := 2 ≤ s.size) (by omega), Bool.true_and]
  by_cases h47 : b = 47
  · subst h47
    rw [decide_eq_true rfl, Bool.true_and]
    refine Ev.step (fun k => by simp only [spec_ValidPath.j0]; exact if_neg (by decide)) ?_
    refine Ev.bind (specNames_ev s (by omega) hs) ?_
    by_cases h6 : (names (s.extract 1 s.size)).length ≤ 6
    · rw [decide_eq_true h6, Bool.true_and]
      refine Ev.neg (by omega) ?_
      have hn := names_len (s.extract 1 s.size)
      rw [ext_size1] at hn
      exact specAll_l _ (by omega) (fun x hx => by have := names_size _ x hx; rw [ext_size1] at this; omega) (names (s.extract 1 s.size)).length 0 (by omega)
    · rw [decide_eq_false h6, Bool.false_and]
      exact Ev.pos (by omega) (Ev.now _)
  · rw [decide_eq_false (by simpa using h47)]
    simp only [Bool.false_and]
    have : ((b.toNat : Int) != 47) = true := by
      have : b.toNat ≠ 47 := fun e => h47 (UInt8.toNat_inj.mp (by rw [e]; rfl))
      simp; omega
    rw [this]
    exact Ev.step (fun k => by simp only [spec_ValidPath.j0]; exact if_pos (by trivial)) (Ev.now _)
theorem cut_e (s : ByteArray) : ∃ p : Bool, p = decide (s.data.toList.head? = some 47) ∧ strings_CutPrefix.f s (⟨#[47]⟩ : ByteArray) = some (if p = true then (s.extract 1 s.size, true) else (s, false)) := by
  refine ⟨_, rfl, ?_⟩
  simp only [strings_CutPrefix.f, stringslite_CutPrefix.f, stringslite_HasPrefix.f]
  have e1 : ((⟨#[47]⟩ : ByteArray).size : Int) = 1 := rfl
  rw [e1]
  by_cases h1 : (s.size : Int) ≥ 1
  · rw [if_pos h1, if_pos (by omega), if_pos (by omega), Option.bind_some]
    have e2 : (s.extract 0 (1 : Int).toNat).toList = s.data.toList.take 1 := by
      rw [Go.Lib.extract_toList]; simp
    have e3 : (⟨#[47]⟩ : ByteArray).toList = [47] := by rw [Go.Lib.toList_data]
    rw [e2, e3]
    have hne : s.data.toList ≠ [] := fun e => by rw [Go.Lib.size_eq, e] at h1; simp at h1
    obtain ⟨b, t, e⟩ := List.exists_cons_of_ne_nil hne
    rw [e]
    by_cases hb : b = 47
    · subst hb; simp
      rw [if_pos (by omega)]; rfl
    · simp [hb]
  · rw [if_neg h1, Option.bind_some]
    have : s.data.toList = [] := by
      have h2 : s.data.toList.length = 0 := by rw [← Go.Lib.size_eq]; omega
      exact List.length_eq_zero_iff.mp h2
    rw [this]; simp
theorem implPath_ev (s : ByteArray) (hs : s.size ≤ 1048576) : Ev (fun k => impl_ValidPath.f k s) (okPath s) := by
  simp only [impl_ValidPath.f]
  rw [Go.Lib.toList_data]
  unfold okPath
  by_cases h0 : s.data.toList = [47]
  · rw [if_pos h0]; exact Ev.pos h0 (Ev.now _)
  rw [if_neg h0]
  refine Ev.neg h0 ?_
  obtain ⟨p, hp, hc⟩ := cut_e s
  refine Ev.bindS hc ?_
  by_cases h47 : s.data.toList.head? = some 47
  · rw [decide_eq_true h47] at hp
    subst hp
    rw [decide_eq_true h47, Bool.and_true]
    have h2 : 2 ≤ s.size := by
      rw [Go.Lib.size_eq]
      cases e : s.data.toList with
      | nil => rw [e] at h47; cases h47
      | cons b t =>
        rw [e] at h47 h0
        cases t with
        | nil => simp at h47; simp [h47] at h0
        | cons _ _ => simp
    rw [decide_eq_true h2, Bool.true_and]
    refine Ev.pos (by trivial) ?_
    by_cases h102 : s.size ≤ 102
    · rw [decide_eq_false (by omega)]
      refine Ev.step (fun k => by simp only [impl_ValidPath.j0]; exact if_neg (by simp)) ?_
      refine Ev.bindS (implSplit (s.extract 1 s.size) (by rw [ext_size1]; omega)) ?_
      have hn := names_len (s.extract 1 s.size)
      rw [ext_size1] at hn
      rw [Bool.and_comm]
      exact implAll_l _ (by omega) (fun x hx => by have := names_size _ x hx; rw [ext_size1] at this; omega) (names (s.extract 1 s.size)).length 0 (by omega)
    · rw [decide_eq_true (by omega)]
      have : (decide ((names (s.extract 1 s.size)).length ≤ 6) && (names (s.extract 1 s.size)).all okName) = false := by
        cases h : (decide ((names (s.extract 1 s.size)).length ≤ 6) && (names (s.extract 1 s.size)).all okName) with
        | false => rfl
        | true =>
          simp only [Bool.and_eq_true, decide_eq_true_eq] at h
          have := names_bound _ h.1 h.2
          rw [ext_size1] at this
          omega
      rw [this]
      exact Ev.step (fun k => by simp only [impl_ValidPath.j0]; exact if_pos (by trivial)) (Ev.now _)
  · rw [decide_eq_false h47] at hp
    subst hp
    rw [decide_eq_false h47]
    simp only [Bool.and_false, Bool.false_and]
    exact Ev.neg (by simp) (Ev.step (fun k => by simp only [impl_ValidPath.j0]; exact if_pos (by trivial)) (Ev.now _))

def inSt (v : Int) : Bool := decide (0 ≤ v) && decide (v ≤ 2147483647)
theorem stat_e (v : Int) : spec_l3Stat.f v = some (inSt v) := by
  simp only [spec_l3Stat.f, inSt]
  by_cases h : v ≥ 0
  · rw [if_pos h, decide_eq_true (p := 0 ≤ v) h, Bool.true_and]
  · rw [if_neg h, decide_eq_false (p := 0 ≤ v) h, Bool.false_and]
theorem inSt_i (v : Int) : inSt v = decide (inStat v) := by
  unfold inSt inStat
  by_cases h1 : 0 ≤ v <;> by_cases h2 : v ≤ 2147483647 <;> simp [h1, h2]
def okNode (x : S53) : Bool := okPath x.f0 && decide (x.f1.size ≤ 64) && inSt x.f2 && inSt x.f3 && inSt x.f4 && inSt x.f5 && inSt x.f6
theorem specNode_ev (x : S53) (h : x.f0.size ≤ 1048576) : Ev (fun k => spec_l3ValidNode.f k x.f0 x.f1 x.f2 x.f3 x.f4 x.f5 x.f6) (okNode x) := by
  simp only [spec_l3ValidNode.f, okNode]
  refine Ev.bind (specPath_ev _ h) ?_
  cases okPath x.f0 with
  | false => simp only [Bool.false_and]; exact Ev.neg (by simp) (Ev.now _)
  | true =>
    refine Ev.pos (by trivial) ?_
    by_cases h1 : x.f1.size ≤ 64
    rotate_left
    · rw [decide_eq_false h1]; simp only [Bool.and_false, Bool.false_and]; exact Ev.neg (by omega) (Ev.now _)
    rw [decide_eq_true h1]
    simp only [Bool.true_and]
    refine Ev.pos (by omega) (Ev.bindS (stat_e _) ?_)
    cases inSt x.f2 with
    | false => simp only [Bool.false_and]; exact Ev.neg (by simp) (Ev.now _)
    | true =>
    simp only [Bool.true_and]
    refine Ev.pos (by trivial) (Ev.bindS (stat_e _) ?_)
    cases inSt x.f3 with
    | false => simp only [Bool.false_and]; exact Ev.neg (by simp) (Ev.now _)
    | true =>
    simp only [Bool.true_and]
    refine Ev.pos (by trivial) (Ev.bindS (stat_e _) ?_)
    cases inSt x.f4 with
    | false => simp only [Bool.false_and]; exact Ev.neg (by simp) (Ev.now _)
    | true =>
    simp only [Bool.true_and]
    refine Ev.pos (by trivial) (Ev.bindS (stat_e _) ?_)
    cases inSt x.f5 with
    | false => simp only [Bool.false_and]; exact Ev.neg (by simp) (Ev.now _)
    | true =>
    simp only [Bool.true_and]
    exact Ev.pos (by trivial) (Ev.bindS (stat_e _) (Ev.now _))
theorem implNode_ev (x : S53) (h : x.f0.size ≤ 1048576) : Ev (fun k => impl_Node_valid.f k x.f0 x.f1 x.f2 x.f3 x.f4 x.f5 x.f6) (okNode x) := by
  simp only [impl_Node_valid.f, okNode]
  by_cases hs : inStat x.f2 ∧ inStat x.f3 ∧ inStat x.f4 ∧ inStat x.f5 ∧ inStat x.f6
  · have ⟨s1, s2, s3, s4, s5⟩ := hs
    rw [inSt_i, inSt_i, inSt_i, inSt_i, inSt_i, decide_eq_true s1, decide_eq_true s2, decide_eq_true s3, decide_eq_true s4, decide_eq_true s5]
    simp only [Bool.and_true]
    refine Ev.pos hs (Ev.bind (implPath_ev _ h) ?_)
    cases okPath x.f0 with
    | false => simp only [Bool.false_and]; exact Ev.neg (by simp) (Ev.now _)
    | true =>
      refine Ev.pos (by trivial) (Ev.congr (fun k => ?_) (Ev.now _))
      congr 1
      by_cases h1 : x.f1.size ≤ 64
      · rw [decide_eq_true h1, decide_eq_true (by omega)]; rfl
      · rw [decide_eq_false h1, decide_eq_false (by omega)]; rfl
  · have : (okPath x.f0 && decide (x.f1.size ≤ 64) && inSt x.f2 && inSt x.f3 && inSt x.f4 && inSt x.f5 && inSt x.f6) = false := by
      cases e : (okPath x.f0 && decide (x.f1.size ≤ 64) && inSt x.f2 && inSt x.f3 && inSt x.f4 && inSt x.f5 && inSt x.f6) with
      | false => rfl
      | true =>
        simp only [Bool.and_eq_true, inSt_i, decide_eq_true_eq] at e
        exact absurd ⟨e.1.1.1.1.2, e.1.1.1.2, e.1.1.2, e.1.2, e.2⟩ hs
    rw [this]
    exact Ev.neg hs (Ev.now _)

def dirty (x : S55) : Bool := !(x.f1.f1.toList == ([] : List UInt8)) || (!(x.f1.f2 == 0) || (!(x.f1.f3 == 0) || (!(x.f1.f4 == 0) || (!(x.f1.f5 == 0) || (!(x.f1.f6 == 0))))))
def lastOf (l : List S55) (i : Nat) : ByteArray := if i = 0 then (⟨#[]⟩ : ByteArray) else (rd_T55 l ((i : Int) - 1)).f1.f0
def okEFrom (l : List S55) : Nat → Bool
  | 0 => true
  | d + 1 => okNode (rd_T55 l ((l.length - (d + 1) : Nat) : Int)).f1 && Go.Op.bytesLess (lastOf l (l.length - (d + 1))).toList ((rd_T55 l ((l.length - (d + 1) : Nat) : Int)).f1.f0.toList) && !((rd_T55 l ((l.length - (d + 1) : Nat) : Int)).f0 && dirty (rd_T55 l ((l.length - (d + 1) : Nat) : Int))) && okEFrom l d
theorem rdEff (l : List S55) (i : Nat) (h : i < l.length) : rd_T55 l i = l[i] := by simp [rd_T55, h]
theorem okPath_ne (s : ByteArray) (h : okPath s = true) : Go.Op.bytesLess ((⟨#[]⟩ : ByteArray).toList) s.toList = true := by
  have hs : s.data.toList ≠ [] := by
    intro e
    unfold okPath at h
    rw [e, if_neg (by simp)] at h
    have : s.size = 0 := by rw [Go.Lib.size_eq, e]; rfl
    rw [this] at h
    simp at h
  obtain ⟨b, t, e⟩ := List.exists_cons_of_ne_nil hs
  rw [Go.Lib.toList_data, Go.Lib.toList_data, e]
  rfl
theorem implTxn_l (l : List S55) (hl : l.length ≤ 1048576) (hs : ∀ x ∈ l, x.f1.f0.size ≤ 1048576) (d : Nat) : ∀ (i : Nat), i + d = l.length → Ev (fun k => impl_ValidTxn.l0 k (lastOf l i) l (l.length : Int) i) (okEFrom l d) := by
  induction d with
  | zero => intro i hi; exact Ev.step (fun k => by simp only [impl_ValidTxn.l0]; exact if_neg (by omega)) (Ev.now _)
  | succ d ih =>
    intro i hi
    obtain rfl : i = l.length - (d + 1) := by omega
    have hi2 : l.length - (d + 1) < l.length := by omega
    have hn := ih (l.length - (d + 1) + 1) (by omega)
    have hlast : lastOf l (l.length - (d + 1) + 1) = (rd_T55 l ((l.length - (d + 1) : Nat) : Int)).f1.f0 := by
      unfold lastOf
      rw [if_neg (by omega), show ((l.length - (d + 1) + 1 : Nat) : Int) - 1 = ((l.length - (d + 1) : Nat) : Int) by omega]
    rw [hlast] at hn
    refine Ev.step (fun k => by simp only [impl_ValidTxn.l0]; rw [if_pos (by omega), if_pos (by omega), if_pos (by omega), w64 (by omega) (by omega)]) ?_
    simp only [okEFrom]
    have hx : (rd_T55 l ((l.length - (d + 1) : Nat) : Int)).f1.f0.size ≤ 1048576 := by rw [rdEff l _ hi2]; exact hs _ (List.getElem_mem _)
    refine Ev.bind (implNode_ev _ hx) ?_
    cases okNode (rd_T55 l ((l.length - (d + 1) : Nat) : Int)).f1 with
    | false => simp only [Bool.false_and]; exact Ev.neg (by simp) (Ev.now _)
    | true =>
      simp only [Bool.true_and]
      refine Ev.pos (by trivial) ?_
      cases hless : Go.Op.bytesLess (lastOf l (l.length - (d + 1))).toList ((rd_T55 l ((l.length - (d + 1) : Nat) : Int)).f1.f0.toList) with
      | false => simp only [Bool.false_and]; exact Ev.neg (by simp) (Ev.now _)
      | true =>
        simp only [Bool.true_and]
        refine Ev.pos (by trivial) ?_
        cases (rd_T55 l ((l.length - (d + 1) : Nat) : Int)).f0 with
        | false => simp only [Bool.false_and, Bool.not_false, Bool.true_and]; exact Ev.neg (by simp) hn
        | true =>
          simp only [Bool.true_and]
          refine Ev.pos (by trivial) ?_
          by_cases hd : dirty (rd_T55 l ((l.length - (d + 1) : Nat) : Int)) = true
          · rw [hd]; simp only [Bool.not_true, Bool.false_and]; exact Ev.pos hd (Ev.now _)
          · have hd' : dirty (rd_T55 l ((l.length - (d + 1) : Nat) : Int)) = false := by simpa using hd
            rw [hd']; simp only [Bool.not_false, Bool.true_and]; exact Ev.neg hd hn
theorem specTxn_l (z : Int) (l : List S55) (hl : l.length ≤ 1048576) (hs : ∀ x ∈ l, x.f1.f0.size ≤ 1048576) (d : Nat) : ∀ (i : Nat), i + d = l.length → Ev (fun k => spec_ValidTxn.l0 k i z l) (okEFrom l d) := by
  induction d with
  | zero => intro i hi; exact Ev.step (fun k => by simp only [spec_ValidTxn.l0]; exact if_neg (by omega)) (Ev.now _)
  | succ d ih =>
    intro i hi
    obtain rfl : i = l.length - (d + 1) := by omega
    have hi2 : l.length - (d + 1) < l.length := by omega
    have hn := ih (l.length - (d + 1) + 1) (by omega)
    refine Ev.step (fun k => by simp only [spec_ValidTxn.l0]; rw [if_pos (by omega), if_pos (by omega)]) ?_
    simp only [okEFrom]
    have hx : (rd_T55 l ((l.length - (d + 1) : Nat) : Int)).f1.f0.size ≤ 1048576 := by rw [rdEff l _ hi2]; exact hs _ (List.getElem_mem _)
    refine Ev.bind (specNode_ev _ hx) ?_
    cases hok : okNode (rd_T55 l ((l.length - (d + 1) : Nat) : Int)).f1 with
    | false => simp only [Bool.false_and]; exact Ev.neg (by simp) (Ev.step (fun k => by simp only [spec_ValidTxn.j2]; exact if_pos (by trivial)) (Ev.now _))
    | true =>
      simp only [Bool.true_and]
      refine Ev.pos (by trivial) ?_
      have tail : Ev (fun k => if (rd_T55 l ((l.length - (d + 1) : Nat) : Int)).f0 = true then (if dirty (rd_T55 l ((l.length - (d + 1) : Nat) : Int)) = true then some false else spec_ValidTxn.l0 k ((l.length - (d + 1) + 1 : Nat) : Int) z l) else spec_ValidTxn.l0 k ((l.length - (d + 1) + 1 : Nat) : Int) z l) (!((rd_T55 l ((l.length - (d + 1) : Nat) : Int)).f0 && dirty (rd_T55 l ((l.length - (d + 1) : Nat) : Int))) && okEFrom l d) := by
        cases (rd_T55 l ((l.length - (d + 1) : Nat) : Int)).f0 with
        | false => simp only [Bool.false_and, Bool.not_false, Bool.true_and]; exact Ev.neg (by simp) hn
        | true =>
          simp only [Bool.true_and]
          refine Ev.pos (by trivial) ?_
          by_cases hd : dirty (rd_T55 l ((l.length - (d + 1) : Nat) : Int)) = true
          · rw [hd]; simp only [Bool.not_true, Bool.false_and]; exact Ev.pos (by trivial) (Ev.now _)
          · have hd' : dirty (rd_T55 l ((l.length - (d + 1) : Nat) : Int)) = false := by simpa using hd
            rw [hd']; simp only [Bool.not_false, Bool.true_and]; exact Ev.neg (by simp) hn
      by_cases h0 : l.length - (d + 1) = 0
      · have hp : okPath (rd_T55 l ((l.length - (d + 1) : Nat) : Int)).f1.f0 = true := by
          simp only [okNode, Bool.and_eq_true] at hok
          exact hok.1.1.1.1.1.1
        have : lastOf l (l.length - (d + 1)) = ⟨#[]⟩ := by unfold lastOf; rw [if_pos h0]
        rw [this, okPath_ne _ hp, Bool.true_and]
        refine Ev.neg (by omega) (Ev.step (fun k => by simp only [spec_ValidTxn.j2]; rw [if_neg (by simp), w64 (by omega) (by omega)]) ?_)
        exact tail
      · have : lastOf l (l.length - (d + 1)) = (rd_T55 l (((l.length - (d + 1) : Nat) : Int) - 1)).f1.f0 := by unfold lastOf; rw [if_neg h0]
        rw [this]
        refine Ev.pos (by omega) (Ev.congr (fun k => by rw [w64 (by omega) (by omega)]) ?_)
        refine Ev.pos (by omega) (Ev.pos (by omega) ?_)
        cases Go.Op.bytesLess ((rd_T55 l (((l.length - (d + 1) : Nat) : Int) - 1)).f1.f0.toList) ((rd_T55 l ((l.length - (d + 1) : Nat) : Int)).f1.f0.toList) with
        | false => simp only [Bool.false_and]; exact Ev.step (fun k => by simp only [spec_ValidTxn.j2]; exact if_pos (by rfl)) (Ev.now _)
        | true =>
          rw [Bool.true_and]
          refine Ev.step (fun k => by simp only [spec_ValidTxn.j2]; rw [if_neg (by simp), w64 (by omega) (by omega)]) ?_
          exact tail
def okTxn (z : Int) (l : List S55) : Bool := decide (1 ≤ z) && decide (z ≤ 2147483647) && decide (l.length ≤ 1000) && okEFrom l l.length
theorem specTxn_ev (z : Int) (l : List S55) (hl : l.length ≤ 1048576) (hs : ∀ x ∈ l, x.f1.f0.size ≤ 1048576) : Ev (fun k => spec_ValidTxn.f k z l) (okTxn z l) := by
  simp only [spec_ValidTxn.f, okTxn]
  have j1 : Ev (fun k => spec_ValidTxn.j0 k true z l) false := Ev.step (fun k => by simp only [spec_ValidTxn.j0]; exact if_pos (by trivial)) (Ev.now _)
  by_cases h1 : z < 1
  · rw [decide_eq_false (p := 1 ≤ z) (by omega)]; simp only [Bool.false_and]; exact Ev.pos h1 j1
  rw [decide_eq_true (p := 1 ≤ z) (by omega)]
  refine Ev.neg h1 ?_
  by_cases h2 : z > 2147483647
  · rw [decide_eq_false (p := z ≤ 2147483647) (by omega)]; simp only [Bool.and_false, Bool.false_and]; exact Ev.pos h2 j1
  rw [decide_eq_true (p := z ≤ 2147483647) (by omega)]
  refine Ev.neg h2 ?_
  by_cases h3 : l.length ≤ 1000
  · rw [decide_eq_true h3, decide_eq_false (by omega)]
    simp only [Bool.true_and]
    exact Ev.step (fun k => by simp only [spec_ValidTxn.j0]; exact if_neg (by simp)) (specTxn_l z l hl hs l.length 0 (by omega))
  · rw [decide_eq_false h3, decide_eq_true (by omega)]; simp only [Bool.true_and, Bool.false_and]; exact j1
theorem implTxn_ev (z : Int) (l : List S55) (hl : l.length ≤ 1048576) (hs : ∀ x ∈ l, x.f1.f0.size ≤ 1048576) : Ev (fun k => impl_ValidTxn.f k z l) (okTxn z l) := by
  simp only [impl_ValidTxn.f, okTxn]
  have j1 : Ev (fun k => impl_ValidTxn.j0 k true z l) false := Ev.step (fun k => by simp only [impl_ValidTxn.j0]; exact if_pos (by trivial)) (Ev.now _)
  by_cases h1 : z < 1
  · rw [decide_eq_false (p := 1 ≤ z) (by omega)]; simp only [Bool.false_and]; exact Ev.pos h1 j1
  rw [decide_eq_true (p := 1 ≤ z) (by omega)]
  refine Ev.neg h1 ?_
  by_cases h2 : z > 2147483647
  · rw [decide_eq_false (p := z ≤ 2147483647) (by omega)]; simp only [Bool.and_false, Bool.false_and]; exact Ev.pos h2 j1
  rw [decide_eq_true (p := z ≤ 2147483647) (by omega)]
  refine Ev.neg h2 ?_
  by_cases h3 : l.length ≤ 1000
  · rw [decide_eq_true h3, decide_eq_false (by omega)]
    simp only [Bool.true_and]
    refine Ev.step (fun k => by simp only [impl_ValidTxn.j0]; exact if_neg (by simp)) ?_
    have := implTxn_l l hl hs l.length 0 (by omega)
    unfold lastOf at this
    rw [if_pos rfl] at this
    exact this
  · rw [decide_eq_false h3, decide_eq_true (by omega)]; simp only [Bool.true_and, Bool.false_and]; exact j1

def okB (l : List Int) : Prop := ∀ x ∈ l, 0 ≤ x ∧ x ≤ 255
def beF (v : Nat) (l : List Int) : Nat := l.foldl (fun v b => v * 256 + b.toNat) v
theorem numStep_e (v : Nat) (b : Int) (hv : v < 72057594037927936) (h0 : 0 ≤ b) (h1 : b ≤ 255) : numStep (v : Int) b = ((v * 256 + b.toNat : Nat) : Int) := by
  obtain ⟨c, rfl⟩ := Int.eq_ofNat_of_zero_le h0
  have e1 : IntKind.u64.wrap ((v : Int) * 256) = ((v * 256 : Nat) : Int) := by
    show ((v : Int) * 256) % 18446744073709551616 = _
    omega
  have e2 : IntKind.u64.wrap (c : Int) = (c : Int) := by
    show (c : Int) % 18446744073709551616 = _
    omega
  have e3 : v * 256 ||| c = v * 256 + c := by
    have := Nat.two_pow_add_eq_or_of_lt (i := 8) (b := c) (by omega) v
    rw [show (2 : Nat) ^ 8 = 256 from rfl, Nat.mul_comm 256 v] at this
    exact this.symm
  unfold numStep
  rw [e1, e2]
  unfold bits
  have e4 : ((BitVec.ofInt IntKind.u64.bits ((v * 256 : Nat) : Int)) ||| (BitVec.ofInt IntKind.u64.bits (c : Int))).toNat = v * 256 + c := by
    rw [BitVec.toNat_or, BitVec.ofInt_natCast, BitVec.ofInt_natCast, BitVec.toNat_ofNat, BitVec.toNat_ofNat]
    show (v * 256 % 18446744073709551616) ||| (c % 18446744073709551616) = _
    rw [Nat.mod_eq_of_lt (by omega), Nat.mod_eq_of_lt (by omega), e3]
  simp only [e4]
  show (((v * 256 + c : Nat) : Int)) % 18446744073709551616 = _
  rw [Int.toNat_natCast]
  omega
theorem beF_lt : ∀ (l : List Int) (v : Nat), okB l → beF v l < (v + 1) * 256 ^ l.length := by
  intro l
  induction l with
  | nil => intro v _; simp [beF]
  | cons b l ih =>
    intro v h
    have hb := h b (by simp)
    have h1 := ih (v * 256 + b.toNat) (fun x hx => h x (by simp [hx]))
    have h2 : (v * 256 + b.toNat + 1) * 256 ^ l.length ≤ (v + 1) * 256 * 256 ^ l.length := Nat.mul_le_mul_right _ (by omega)
    simp only [beF, List.foldl_cons, List.length_cons] at h1 ⊢
    rw [Nat.pow_succ, Nat.mul_comm (256 ^ l.length) 256, ← Nat.mul_assoc]
    omega
theorem numStep_f : ∀ (l : List Int) (v : Nat), okB l → (v + 1) * 256 ^ l.length ≤ 18446744073709551616 → l.foldl numStep (v : Int) = ((beF v l : Nat) : Int) := by
  intro l
  induction l with
  | nil => intro v _ _; rfl
  | cons b l ih =>
    intro v h hv
    have hb := h b (by simp)
    have hp : 1 ≤ 256 ^ l.length := Nat.one_le_pow _ _ (by omega)
    rw [List.length_cons, Nat.pow_succ, Nat.mul_comm (256 ^ l.length) 256, ← Nat.mul_assoc] at hv
    have hv1 : (v + 1) * 256 * 1 ≤ (v + 1) * 256 * 256 ^ l.length := Nat.mul_le_mul_left _ hp
    have h2 : (v * 256 + b.toNat + 1) * 256 ^ l.length ≤ (v + 1) * 256 * 256 ^ l.length := Nat.mul_le_mul_right _ (by omega)
    rw [List.foldl_cons, numStep_e v b (by omega) hb.1 hb.2, ih _ (fun x hx => h x (by simp [hx])) (by omega)]
    rfl
theorem specNum_l (l : List Int) (h : okB l) (hl : l.length ≤ 1000) (d : Nat) : ∀ (i v : Nat), i + d = l.length → (v + 1) * 256 ^ d ≤ 9223372036854775808 → Ev (fun k => spec_l4Number.l0 k l v i) ((beF v (l.drop i) : Nat) : Int) := by
  induction d with
  | zero =>
    intro i v hi _
    refine Ev.step (fun k => by simp only [spec_l4Number.l0]; exact if_neg (by omega)) ?_
    rw [List.drop_of_length_le (by omega)]
    exact Ev.now _
  | succ d ih =>
    intro i v hi hv
    have hil : i < l.length := by omega
    have e : rd l (i : Int) = l[i] := by simp [rd, hil]
    have hb := h l[i] (List.getElem_mem hil)
    have hp : 1 ≤ 256 ^ d := Nat.one_le_pow _ _ (by omega)
    rw [Nat.pow_succ, Nat.mul_comm (256 ^ d) 256, ← Nat.mul_assoc] at hv
    have hv1 : (v + 1) * 256 * 1 ≤ (v + 1) * 256 * 256 ^ d := Nat.mul_le_mul_left _ hp
    have h2 : (v * 256 + l[i].toNat + 1) * 256 ^ d ≤ (v + 1) * 256 * 256 ^ d := Nat.mul_le_mul_right _ (by omega)
    have hn := ih (i + 1) (v * 256 + l[i].toNat) (by omega) (by omega)
    · refine Ev.step (f := fun k => spec_l4Number.l0 k l ((v * 256 + l[i].toNat : Nat) : Int) ((i + 1 : Nat) : Int)) (fun k => by
        simp only [spec_l4Number.l0]
        have e1 : wrap64 ((v : Int) * 256) = ((v * 256 : Nat) : Int) := by rw [w64 (by omega) (by omega)]; omega
        have e2 : wrap64 l[i] = l[i] := w64 (by omega) (by omega)
        rw [if_pos (by omega), if_pos (by omega), e, e1, e2]
        clear e1 e2
        rw [w64 (x := ((v * 256 : Nat) : Int) + l[i]) (by omega) (by omega), w64 (x := (i : Int) + 1) (by omega) (by omega)]
        rw [show ((v * 256 : Nat) : Int) + l[i] = ((v * 256 + l[i].toNat : Nat) : Int) by omega]
        rfl) ?_
      rw [List.drop_eq_getElem_cons hil]
      exact hn
theorem rnum_s (l : List Int) (h : okB l) (n : Nat) (hl : l.length = n) (hn : n ≤ 4) : rnum l = ((beF 0 l : Nat) : Int) ∧ beF 0 l < 4294967296 := by
  have h1 := beF_lt l 0 h
  have hp : 256 ^ l.length ≤ 256 ^ 4 := Nat.pow_le_pow_right (by omega) (by omega)
  have h256 : (256 : Nat) ^ 4 = 4294967296 := by decide
  have h2 := numStep_f l 0 h (by omega)
  unfold rnum
  rw [show (0 : Int) = ((0 : Nat) : Int) from rfl, h2, w64 (by omega) (by omega)]
  exact ⟨rfl, by omega⟩
theorem specNum_s (l : List Int) (h : okB l) (n : Nat) (hl : l.length = n) (hn : n ≤ 4) : Ev (fun k => spec_l4Number.f k l) ((beF 0 l : Nat) : Int) := by
  have hp : 256 ^ l.length ≤ 256 ^ 4 := Nat.pow_le_pow_right (by omega) (by omega)
  have h256 : (256 : Nat) ^ 4 = 4294967296 := by decide
  have := specNum_l l h (by omega) l.length 0 0 (by omega) (by omega)
  rw [List.drop_zero] at this
  exact this
theorem specText_e (l : List Int) (ok : bytesOk l) (hl : l.length ≤ 1048576) (i : Nat) (hi : i ≤ l.length) :
    (rtext (l.drop i) = none → spec_l4ReadText.f l i = some ((⟨#[]⟩ : ByteArray), (-1))) ∧ (∀ s l', rtext (l.drop i) = some (s, l') → ∃ j : Nat, l' = l.drop j ∧ i < j ∧ j ≤ l.length ∧ s.size ≤ 255 ∧ spec_l4ReadText.f l i = some (s, (j : Int))) := by
  by_cases he : i = l.length
  · subst he
    rw [List.drop_length]
    refine ⟨fun _ => ?_, fun s l' h => by cases h⟩
    simp only [spec_l4ReadText.f]
    rw [if_neg (by omega), if_pos (by omega)]
  · have hlt : i < l.length := by omega
    have hb := ok l[i] (List.getElem_mem hlt)
    have hrd : rd l (i : Int) = l[i] := by simp [rd, hlt]
    have hd : l.drop i = l[i] :: l.drop (i + 1) := List.drop_eq_getElem_cons hlt
    obtain ⟨b, hbn⟩ := Int.eq_ofNat_of_zero_le hb.1
    have hb2 : b ≤ 255 := by omega
    have w1 : wrap64 ((i : Int) + 1) = ((i + 1 : Nat) : Int) := by rw [w64 (by omega) (by omega)]; omega
    have w2 : wrap64 (b : Int) = (b : Int) := w64 (by omega) (by omega)
    have w3 : wrap64 (((i + 1 : Nat) : Int) + (b : Int)) = ((i + 1 + b : Nat) : Int) := by rw [w64 (by omega) (by omega)]; omega
    have hf : spec_l4ReadText.f l i = if ((i + 1 + b : Nat) : Int) > (l.length : Int) then some ((⟨#[]⟩ : ByteArray), (-1)) else some (strOfNums ((l.take (i + 1 + b)).drop (i + 1)), ((i + 1 + b : Nat) : Int)) := by
      simp only [spec_l4ReadText.f]
      rw [if_neg (by omega), if_neg (by omega), if_pos (by omega), if_pos (by omega), hrd, hbn, w1, w2, w3]
      by_cases hc : ((i + 1 + b : Nat) : Int) > (l.length : Int)
      · rw [if_pos hc, if_pos hc]
      · rw [if_neg hc, if_neg hc, if_pos (by omega), if_pos (by omega), if_pos (by omega), Int.toNat_natCast, Int.toNat_natCast]
    rw [hf, hd, hbn]
    clear hf w1 w2 w3 hrd hd hb hbn
    simp only [rtext, Int.toNat_natCast, List.length_drop]
    by_cases hc : b ≤ l.length - (i + 1)
    · rw [if_pos hc, if_neg (by omega)]
      refine ⟨fun h => (by cases h), fun s l' h => ?_⟩
      simp only [Option.some.injEq, Prod.mk.injEq] at h
      obtain ⟨rfl, rfl⟩ := h
      refine ⟨i + 1 + b, by rw [List.drop_drop], by omega, by omega, ?_, ?_⟩
      · rw [strOfNums_size, List.length_take]; omega
      · rw [List.drop_take, show i + 1 + b - (i + 1) = b by omega]
    · rw [if_neg hc, if_pos (by omega)]
      exact ⟨fun _ => rfl, fun s l' h => by cases h⟩
theorem specNums_l (l : List Int) (ok : bytesOk l) (hl : l.length ≤ 1048576) (s0 s1 : ByteArray) (j : Nat) (hj : j + 20 ≤ l.length) : Ev (fun k => spec_l4ReadNode.l0 k l s0 s1 j [] 0) (s0, s1, rnum ((l.drop j).take 4), rnum (((l.drop j).drop 4).take 4), rnum (((l.drop j).drop 8).take 4), rnum (((l.drop j).drop 12).take 4), rnum (((l.drop j).drop 16).take 4), ((j + 20 : Nat) : Int)) := by
  have one : ∀ (i : Nat) (x : List Int) (r : _), i < 5 → x.length = i → Ev (fun k => spec_l4ReadNode.l0 k l s0 s1 j (x ++ [rnum (((l.drop j).drop (4 * i)).take 4)]) ((i + 1 : Nat) : Int)) r → Ev (fun k => spec_l4ReadNode.l0 k l s0 s1 j x (i : Int)) r := by
    intro i x r hi hx h
    have w1 : wrap64 ((4 : Int) * (i : Int)) = ((4 * i : Nat) : Int) := by rw [w64 (by omega) (by omega)]; omega
    have w2 : wrap64 ((j : Int) + ((4 * i : Nat) : Int)) = ((j + 4 * i : Nat) : Int) := by rw [w64 (by omega) (by omega)]; omega
    have w3 : wrap64 (((j + 4 * i : Nat) : Int) + 4) = ((j + 4 * i + 4 : Nat) : Int) := by rw [w64 (by omega) (by omega)]; omega
    have w4 : wrap64 ((i : Int) + 1) = ((i + 1 : Nat) : Int) := by rw [w64 (by omega) (by omega)]; omega
    have hq : (l.take (j + 4 * i + 4)).drop (j + 4 * i) = ((l.drop j).drop (4 * i)).take 4 := by
      rw [List.drop_take, List.drop_drop, show j + 4 * i + 4 - (j + 4 * i) = 4 by omega]
    have hlen : (((l.drop j).drop (4 * i)).take 4).length = 4 := by rw [List.length_take, List.length_drop, List.length_drop]; omega
    have okq : okB (((l.drop j).drop (4 * i)).take 4) := fun y hy => ok y (List.mem_of_mem_drop (List.mem_of_mem_drop (List.mem_of_mem_take hy)))
    have hn := specNum_s _ okq 4 hlen (by omega)
    rw [← (rnum_s _ okq 4 hlen (by omega)).1] at hn
    refine Ev.step (fun k => by simp only [spec_l4ReadNode.l0]; rw [if_pos (by omega), w1, w2, w3, w4, if_pos (by omega), if_pos (by omega), if_pos (by omega), Int.toNat_natCast, Int.toNat_natCast, hq]) ?_
    exact Ev.bind hn (Ev.pos (by omega) h)
  refine one 0 [] _ (by omega) rfl ?_
  refine one 1 _ _ (by omega) (by simp) ?_
  refine one 2 _ _ (by omega) (by simp) ?_
  refine one 3 _ _ (by omega) (by simp) ?_
  refine one 4 _ _ (by omega) (by simp) ?_
  have w5 : wrap64 ((j : Int) + 20) = ((j + 20 : Nat) : Int) := by rw [w64 (by omega) (by omega)]; omega
  refine Ev.step (fun k => by simp only [spec_l4ReadNode.l0]; rw [if_neg (by omega), w5]) ?_
  simp only [List.nil_append, List.cons_append, List.length_cons, List.length_nil]
  refine Ev.pos (by omega) (Ev.pos (by omega) (Ev.pos (by omega) (Ev.pos (by omega) (Ev.pos (by omega) ?_))))
  exact Ev.now _
theorem specNode_e (l : List Int) (ok : bytesOk l) (hl : l.length ≤ 1048576) (i : Nat) (hi : i ≤ l.length) :
    (rnode (l.drop i) = none → ∃ y : ByteArray × ByteArray × Int × Int × Int × Int × Int × Int, y.2.2.2.2.2.2.2 = -1 ∧ Ev (fun k => spec_l4ReadNode.f k l i) y) ∧ (∀ (x : S53) l', rnode (l.drop i) = some (x, l') → ∃ j : Nat, l' = l.drop j ∧ i < j ∧ j ≤ l.length ∧ x.f0.size ≤ 255 ∧ x.f1.size ≤ 255 ∧ Ev (fun k => spec_l4ReadNode.f k l i) (x.f0, x.f1, x.f2, x.f3, x.f4, x.f5, x.f6, (j : Int))) := by
  obtain ⟨t1, t2⟩ := specText_e l ok hl i hi
  have bad : ∀ (a b : ByteArray) (z : Int), Ev (fun k => spec_l4ReadNode.j0 k l a b z true) ((⟨#[]⟩ : ByteArray), (⟨#[]⟩ : ByteArray), 0, 0, 0, 0, 0, (-1)) := fun a b z => Ev.step (fun k => by simp only [spec_l4ReadNode.j0]; exact if_pos trivial) (Ev.now _)
  have neg : spec_l4ReadText.f l (-1) = some ((⟨#[]⟩ : ByteArray), (-1)) := by simp only [spec_l4ReadText.f]; exact if_pos (by omega)
  unfold rnode
  cases h0 : rtext (l.drop i) with
  | none =>
    refine ⟨fun _ => ⟨((⟨#[]⟩ : ByteArray), (⟨#[]⟩ : ByteArray), 0, 0, 0, 0, 0, (-1)), rfl, ?_⟩, fun x l' h => by cases h⟩
    simp only [spec_l4ReadNode.f]
    exact Ev.bindS (t1 h0) (Ev.bindS neg (Ev.pos (by show (-1 : Int) < 0; omega) (bad _ _ _)))
  | some p0 =>
    obtain ⟨s0, l1⟩ := p0
    obtain ⟨j, rfl, hj1, hj2, hs0, e0⟩ := t2 s0 l1 h0
    obtain ⟨u1, u2⟩ := specText_e l ok hl j hj2
    simp only
    cases h1 : rtext (l.drop j) with
    | none =>
      refine ⟨fun _ => ⟨((⟨#[]⟩ : ByteArray), (⟨#[]⟩ : ByteArray), 0, 0, 0, 0, 0, (-1)), rfl, ?_⟩, fun x l' h => by cases h⟩
      simp only [spec_l4ReadNode.f]
      exact Ev.bindS e0 (Ev.bindS (u1 h1) (Ev.pos (by show (-1 : Int) < 0; omega) (bad _ _ _)))
    | some p1 =>
      obtain ⟨s1, l2⟩ := p1
      obtain ⟨m, rfl, hm1, hm2, hs1, e1⟩ := u2 s1 l2 h1
      simp only
      have w : wrap64 ((m : Int) + 20) = ((m + 20 : Nat) : Int) := by rw [w64 (by omega) (by omega)]; omega
      by_cases h20 : 20 ≤ (l.drop m).length
      · rw [if_pos h20]
        rw [List.length_drop] at h20
        refine ⟨fun h => (by cases h), fun x l' h => ?_⟩
        simp only [Option.some.injEq, Prod.mk.injEq] at h
        obtain ⟨rfl, rfl⟩ := h
        refine ⟨m + 20, by rw [List.drop_drop], by omega, by omega, hs0, hs1, ?_⟩
        simp only [spec_l4ReadNode.f]
        refine Ev.bindS e0 (Ev.bindS e1 (Ev.neg (by show ¬ ((m : Int) < 0); omega) ?_))
        simp only
        rw [w, decide_eq_false (by omega)]
        exact Ev.step (fun k => by simp only [spec_l4ReadNode.j0]; exact if_neg (by simp)) (specNums_l l ok hl s0 s1 m (by omega))
      · rw [if_neg h20]
        rw [List.length_drop] at h20
        refine ⟨fun _ => ⟨((⟨#[]⟩ : ByteArray), (⟨#[]⟩ : ByteArray), 0, 0, 0, 0, 0, (-1)), rfl, ?_⟩, fun x l' h => by cases h⟩
        simp only [spec_l4ReadNode.f]
        refine Ev.bindS e0 (Ev.bindS e1 (Ev.neg (by show ¬ ((m : Int) < 0); omega) ?_))
        simp only
        rw [w, decide_eq_true (by omega)]
        exact bad _ _ _
theorem reffs_0 (l : List Int) (acc : List S55) : reffs 0 l acc = some (acc, l) := rfl
def txnOut (k : Nat) (z : Int) (o : Option (List S55 × List Int)) : Option (Bool × Int × List S55) := match (match o with | none => none | some p => if p.2 = [] then some (z, p.1) else none : Option (Int × List S55)) with | none => some (false, 0, []) | some (z, xs) => (impl_ValidTxn.f k z xs).bind fun v => if v = true then some (true, z, xs) else some (false, 0, [])
theorem rnum_sl (l : List Int) (ok : bytesOk l) (hl : l.length ≤ 1048576) (a b : Nat) (hab : a ≤ b) (hb : b ≤ l.length) (h4 : b - a ≤ 4) : ∃ c : Nat, c < 4294967296 ∧ rnum ((l.drop a).take (b - a)) = (c : Int) ∧ Ev (fun k => spec_l4Number.f k ((l.take b).drop a)) (c : Int) := by
  have hq : (l.take b).drop a = (l.drop a).take (b - a) := by rw [List.drop_take]
  have hlen : ((l.drop a).take (b - a)).length = b - a := by rw [List.length_take, List.length_drop]; omega
  have okq : okB ((l.drop a).take (b - a)) := fun y hy => ok y (List.mem_of_mem_drop (List.mem_of_mem_take hy))
  have hn := specNum_s _ okq (b - a) hlen h4
  have ⟨h1, h2⟩ := rnum_s _ okq (b - a) hlen h4
  exact ⟨beF 0 ((l.drop a).take (b - a)), h2, h1, by rw [hq]; exact hn⟩
theorem decTxn_l (l : List Int) (ok : bytesOk l) (hl : l.length ≤ 1048576) (z : Int) (cn : Nat) (hcn : cn ≤ 100000) (n : Nat) : ∀ (i j : Nat) (acc : List S55), i + n = cn → j ≤ l.length → acc.length = i → (∀ x ∈ acc, x.f1.f0.size ≤ 1048576) → ∃ r : Bool × Int × List S55, (r.2.2.length ≤ cn) ∧ Ev (fun k => spec_DecodeTxn.l0 k l cn j i z acc) r ∧ Ev (fun k => txnOut k z (reffs n (l.drop j) acc)) r := by
  induction n with
  | zero =>
    intro i j acc hi hj ha hs
    rw [reffs_0]
    have st : ∀ k, spec_DecodeTxn.l0 (k + 1) l cn j i z acc = if (j : Int) = (l.length : Int) then ((spec_ValidTxn.f k z acc).bind fun t158 => (if t158 = true then (some (true, z, acc)) else (some (false, 0, ([] : List S55))))) else (some (false, 0, ([] : List S55))) := fun k => by simp only [spec_DecodeTxn.l0]; exact if_neg (by omega)
    by_cases he : j = l.length
    · subst he
      simp only [txnOut, List.drop_length, if_true]
      have e1 := specTxn_ev z acc (by omega) hs
      have e2 := implTxn_ev z acc (by omega) hs
      generalize okTxn z acc = v at e1 e2
      cases v with
      | true => exact ⟨(true, z, acc), show acc.length ≤ cn by omega, Ev.step st (Ev.pos rfl (Ev.bind e1 (Ev.pos rfl (Ev.now _)))), Ev.bind e2 (Ev.pos rfl (Ev.now _))⟩
      | false => exact ⟨(false, 0, []), by simp, Ev.step st (Ev.pos rfl (Ev.bind e1 (Ev.neg (show ¬ (false = true) by decide) (Ev.now _)))), Ev.bind e2 (Ev.neg (show ¬ (false = true) by decide) (Ev.now _))⟩
    · have hne : l.drop j ≠ [] := fun h => by have := congrArg List.length h; rw [List.length_drop, List.length_nil] at this; omega
      refine ⟨(false, 0, []), by simp, Ev.step st (Ev.neg (by omega) (Ev.now _)), ?_⟩
      simp only [txnOut, if_neg hne]
      exact Ev.now _
  | succ n ih =>
    intro i j acc hi hj ha hs
    have g6 : (i : Int) < (cn : Int) := by omega
    have die : ∀ (f : Nat → Option (Bool × Int × List S55)), reff (l.drop j) = none → Ev (fun k => spec_DecodeTxn.l0 k l cn j i z acc) (false, 0, []) → ∃ r : Bool × Int × List S55, (r.2.2.length ≤ cn) ∧ Ev (fun k => spec_DecodeTxn.l0 k l cn j i z acc) r ∧ Ev (fun k => txnOut k z (reffs (n + 1) (l.drop j) acc)) r := fun _ hd he => by
      refine ⟨(false, 0, []), by simp, he, ?_⟩
      rw [reffs_die hd]
      exact Ev.now _
    by_cases he : j = l.length
    · subst he
      refine die (fun _ => none) (by rw [List.drop_length]; rfl) (Ev.step (fun k => by simp only [spec_DecodeTxn.l0]; rw [if_pos g6, if_pos (by omega)]) (Ev.now _))
    · have hlt : j < l.length := by omega
      have hd : l.drop j = l[j] :: l.drop (j + 1) := List.drop_eq_getElem_cons hlt
      have hrd : rd l (j : Int) = l[j] := by simp [rd, hlt]
      have wj : wrap64 ((j : Int) + 1) = ((j + 1 : Nat) : Int) := by rw [w64 (by omega) (by omega)]; omega
      have wi : wrap64 ((i : Int) + 1) = ((i + 1 : Nat) : Int) := by rw [w64 (by omega) (by omega)]; omega
      have g1 : ¬ ((j : Int) ≥ (l.length : Int)) := by omega
      have g2 : 0 ≤ (j : Int) := by omega
      have g3 : (j : Int) < (l.length : Int) := by omega
      have g4 : acc.length < 1759218604441 := by omega
      have st : ∀ k, spec_DecodeTxn.l0 (k + 1) l cn j i z acc = if l[j] = 1 then ((spec_l4ReadNode.f k l ((j + 1 : Nat) : Int)).bind fun bt161 => (spec_DecodeTxn.j1 k l cn j i bt161.2.2.2.2.2.2.2 z acc false bt161.1 bt161.2.1 bt161.2.2.1 bt161.2.2.2.1 bt161.2.2.2.2.1 bt161.2.2.2.2.2.1 bt161.2.2.2.2.2.2.1)) else (spec_DecodeTxn.j1 k l cn j i (-1) z acc false (⟨#[]⟩ : ByteArray) (⟨#[]⟩ : ByteArray) 0 0 0 0 0) := fun k => by
        simp only [spec_DecodeTxn.l0]
        rw [if_pos g6, if_neg g1, if_pos g2, if_pos g3, hrd, wj]
      have sj : ∀ k x8 b s0 s1 a b1 c d e, spec_DecodeTxn.j1 (k + 1) l cn j i x8 z acc b s0 s1 a b1 c d e = if l[j] = 2 then ((spec_l4ReadText.f l ((j + 1 : Nat) : Int)).bind fun bt171 => (if bt171.2 < 0 then (some (false, 0, ([] : List S55))) else (if acc.length < 1759218604441 then (spec_DecodeTxn.l0 k l cn bt171.2 ((i + 1 : Nat) : Int) z (acc ++ [(⟨true, (⟨bt171.1, (⟨#[]⟩ : ByteArray), 0, 0, 0, 0, 0⟩ : S53)⟩ : S55)])) else (none)))) else (if x8 < 0 then (some (false, 0, ([] : List S55))) else (if acc.length < 1759218604441 then (spec_DecodeTxn.l0 k l cn x8 ((i + 1 : Nat) : Int) z (acc ++ [(⟨b, (⟨s0, s1, a, b1, c, d, e⟩ : S53)⟩ : S55)])) else (none))) := fun k x8 b s0 s1 a b1 c d e => by
        simp only [spec_DecodeTxn.j1]
        rw [if_pos g2, if_pos g3, hrd, wj, wi]
      clear g1 g2 g3 hrd wj wi
      by_cases h1 : l[j] = 1
      · have h2 : ¬ l[j] = 2 := by omega
        obtain ⟨t1, t2⟩ := specNode_e l ok hl (j + 1) (by omega)
        cases hn : rnode (l.drop (j + 1)) with
        | none =>
          obtain ⟨y, hy, ey⟩ := t1 hn
          refine die (fun _ => none) (by rw [hd]; simp only [reff]; rw [if_pos h1, hn]) (Ev.step st (Ev.pos h1 (Ev.bind ey (Ev.step (fun k => sj k _ _ _ _ _ _ _ _ _) (Ev.neg h2 (Ev.pos (show y.2.2.2.2.2.2.2 < 0 by rw [hy]; omega) (Ev.now _)))))))
        | some p0 =>
          obtain ⟨x, l'⟩ := p0
          obtain ⟨m, rfl, hm1, hm2, hs0, _, ey⟩ := t2 x l' hn
          have hr : reff (l.drop j) = some ((false, x), l.drop m) := by rw [hd]; simp only [reff]; rw [if_pos h1, hn]
          obtain ⟨r, hr2, es, ei⟩ := ih (i + 1) m (acc ++ [⟨false, x⟩]) (by omega) hm2 (by rw [List.length_append, List.length_singleton]; omega) (fun q hq => by
            rcases List.mem_append.mp hq with h | h
            · exact hs q h
            · rw [List.mem_singleton] at h; subst h; show x.f0.size ≤ _; omega)
          have hc1 : ¬ ((m : Int) < 0) := by omega
          refine ⟨r, hr2, Ev.step st (Ev.pos h1 (Ev.bind ey (Ev.step (fun k => sj k _ _ _ _ _ _ _ _ _) (Ev.neg h2 (Ev.neg hc1 (Ev.pos g4 es)))))), ?_⟩
          rw [reffs_go hr]
          exact ei
      · by_cases h2 : l[j] = 2
        · obtain ⟨t1, t2⟩ := specText_e l ok hl (j + 1) (by omega)
          cases hn : rtext (l.drop (j + 1)) with
          | none =>
            refine die (fun _ => none) (by rw [hd]; simp only [reff]; rw [if_neg h1, if_pos h2, hn]) (Ev.step st (Ev.neg h1 (Ev.step (fun k => sj k _ _ _ _ _ _ _ _ _) (Ev.pos h2 (Ev.bindS (t1 hn) (Ev.pos (by show (-1 : Int) < 0; omega) (Ev.now _)))))))
          | some p0 =>
            obtain ⟨s, l'⟩ := p0
            obtain ⟨m, rfl, hm1, hm2, hs0, ey⟩ := t2 s l' hn
            have hr : reff (l.drop j) = some ((true, ⟨s, ⟨#[]⟩, 0, 0, 0, 0, 0⟩), l.drop m) := by rw [hd]; simp only [reff]; rw [if_neg h1, if_pos h2, hn]
            obtain ⟨r, hr2, es, ei⟩ := ih (i + 1) m (acc ++ [⟨true, ⟨s, ⟨#[]⟩, 0, 0, 0, 0, 0⟩⟩]) (by omega) hm2 (by rw [List.length_append, List.length_singleton]; omega) (fun q hq => by
              rcases List.mem_append.mp hq with h | h
              · exact hs q h
              · rw [List.mem_singleton] at h; subst h; show s.size ≤ _; omega)
            have hc1 : ¬ ((m : Int) < 0) := by omega
            refine ⟨r, hr2, Ev.step st (Ev.neg h1 (Ev.step (fun k => sj k _ _ _ _ _ _ _ _ _) (Ev.pos h2 (Ev.bindS ey (Ev.neg hc1 (Ev.pos g4 es)))))), ?_⟩
            rw [reffs_go hr]
            exact ei
        · refine die (fun _ => none) (by rw [hd]; simp only [reff]; rw [if_neg h1, if_neg h2]) (Ev.step st (Ev.neg h1 (Ev.step (fun k => sj k _ _ _ _ _ _ _ _ _) (Ev.neg h2 (Ev.pos (by omega) (Ev.now _))))))
theorem decTxnKey (l : List Int) (ok : bytesOk l) (hl : l.length ≤ 1048576) : ∃ r : Bool × Int × List S55, r.2.2.length ≤ 100000 ∧ Ev (fun k => spec_DecodeTxn.f k l) r ∧ Ev (fun k => impl_DecodeTxn.f k l) r := by
  have gi : l.all (fun x => decide (0 ≤ x ∧ x ≤ 255)) = true ∧ l.length ≤ 2000000 := ⟨List.all_eq_true.mpr (fun x hx => decide_eq_true (ok x hx)), by omega⟩
  by_cases h6 : l.length < 6
  · refine ⟨(false, 0, []), by simp, ?_, ?_⟩
    · simp only [spec_DecodeTxn.f]
      exact Ev.pos (by omega) (Ev.now _)
    · simp only [impl_DecodeTxn.f, rtxnF, rtxn, if_pos h6]
      exact Ev.pos gi (Ev.now _)
  · obtain ⟨z, hz, hz1, hz2⟩ := rnum_sl l ok hl 0 4 (by omega) (by omega) (by omega)
    obtain ⟨c, hc, hc1, hc2⟩ := rnum_sl l ok hl 4 6 (by omega) (by omega) (by omega)
    rw [List.drop_zero] at hz1 hz2
    have hcb : c ≤ 100000 := by
      have hlen : ((l.drop 4).take 2).length = 2 := by rw [List.length_take, List.length_drop]; omega
      have okq : okB ((l.drop 4).take 2) := fun y hy => ok y (List.mem_of_mem_drop (List.mem_of_mem_take hy))
      have h1 := beF_lt _ 0 okq
      have h2 := (rnum_s _ okq 2 hlen (by omega)).1
      rw [show 6 - 4 = 2 from rfl] at hc1
      rw [hlen] at h1
      rw [hc1] at h2
      omega
    obtain ⟨r, hr, es, ei⟩ := decTxn_l l ok hl z c hcb c 0 6 [] (by omega) (by omega) rfl (fun x hx => by cases hx)
    refine ⟨r, by omega, ?_, ?_⟩
    · simp only [spec_DecodeTxn.f]
      exact Ev.neg (by omega) (Ev.pos (by omega) (Ev.bind hz2 (Ev.pos (by omega) (Ev.pos (by omega) (Ev.bind hc2 es)))))
    · have hx : rtxnF l = (match reffs c (l.drop 6) [] with | none => none | some p => if p.2 = [] then some ((z : Int), p.1) else none : Option (Int × List S55)) := by
        simp only [rtxnF, rtxn, if_neg h6, show 6 - 4 = 2 from rfl, show 4 - 0 = 4 from rfl] at hz1 hc1 ⊢
        rw [hc1, hz1, Int.toNat_natCast]
        cases reffs c (l.drop 6) [] <;> rfl
      simp only [impl_DecodeTxn.f, hx]
      exact Ev.pos gi ei
theorem toByteS_l (x0 : List Int) (hl : x0.length ≤ 281474976710656) (d : Nat) : ∀ (i : Nat) (x3 : List Int), i + d = x0.length → x3.length = x0.length → x3.take i = x0.take i → ∀ k, d < k → laws_toByteS.l0 k x0 x3 i = some x0 := by
  induction d with
  | zero =>
    intro i x3 hi hl3 ht k hk
    obtain ⟨k, rfl⟩ : ∃ m, k = m + 1 := ⟨k - 1, by omega⟩
    simp only [laws_toByteS.l0]
    rw [if_neg (by omega), ← List.take_of_length_le (l := x3) (i := i) (by omega), ht, List.take_of_length_le (by omega)]
  | succ d ih =>
    intro i x3 hi hl3 ht k hk
    obtain ⟨k, rfl⟩ : ∃ m, k = m + 1 := ⟨k - 1, by omega⟩
    simp only [laws_toByteS.l0]
    rw [if_pos (by omega), if_pos (by omega), if_pos (by omega), w64 (by omega) (by omega), Int.toNat_natCast]
    refine ih (i + 1) _ (by omega) (by simpa using hl3) ?_ k (by omega)
    apply List.ext_getElem?
    intro n
    simp only [List.getElem?_take, rd, Int.toNat_natCast]
    by_cases hn : n < i
    · have h1 : (x3.take i)[n]? = (x0.take i)[n]? := by rw [ht]
      simp only [List.getElem?_take, if_pos hn] at h1
      rw [if_pos (by omega), if_pos (by omega), List.getElem?_set_ne (by omega)]; exact h1
    · by_cases hn2 : n = i
      · subst hn2; rw [if_pos (by omega), if_pos (by omega), List.getElem?_set_self (by omega)]
        simp [List.getElem?_eq_getElem (show n < x0.length by omega)]
      · rw [if_neg (by omega), if_neg (by omega)]
theorem toByteS_ev (l : List Int) (hl : l.length ≤ 281474976710656) : Ev (fun k => laws_toByteS.f k l) l := by
  refine ⟨l.length + 1, fun k hk => ?_⟩
  simp only [laws_toByteS.f]
  rw [if_pos (by omega), if_pos (by omega)]
  exact toByteS_l l hl l.length 0 _ (by omega) (by simp) (by simp) k (by omega)

theorem eqByteS_l (x : List Int) (hl : x.length ≤ 281474976710656) (d : Nat) : ∀ (i : Nat), i + d = x.length → ∀ k, d < k → laws_eqByteS.l0 k x x i = some true := by
  induction d with
  | zero =>
    intro i hi k hk
    obtain ⟨k, rfl⟩ : ∃ m, k = m + 1 := ⟨k - 1, by omega⟩
    simp only [laws_eqByteS.l0]
    rw [if_neg (by omega)]
  | succ d ih =>
    intro i hi k hk
    obtain ⟨k, rfl⟩ : ∃ m, k = m + 1 := ⟨k - 1, by omega⟩
    simp only [laws_eqByteS.l0]
    rw [if_pos (by omega), if_pos (by omega), if_pos (by omega), if_pos trivial, w64 (by omega) (by omega)]
    exact ih (i + 1) (by omega) k (by omega)
theorem eqByteS_ev (l : List Int) (hl : l.length ≤ 281474976710656) : Ev (fun k => laws_eqByteS.f k l l) true := by
  refine ⟨l.length + 1, fun k hk => ?_⟩
  simp only [laws_eqByteS.f]
  rw [if_pos trivial]
  exact eqByteS_l l hl l.length 0 (by omega) k (by omega)

def markB (a : Int) (l : List Int) : List Int := (List.range l.length).map fun i : Nat => (a + (i : Int)) % 256
theorem markByteS_l (a : Int) (ha : 0 ≤ a) (ha2 : a ≤ 4611686018427387904) (n : Nat) (hl : n ≤ 281474976710656) (d : Nat) : ∀ (i : Nat) (x : List Int), i + d = n → x.length = n → x.take i = (List.range i).map (fun i : Nat => (a + (i : Int)) % 256) → ∀ k, d < k → laws_markByteS.l0 k x (a + i) i = some (a + n, (List.range n).map fun i : Nat => (a + (i : Int)) % 256) := by
  induction d with
  | zero =>
    intro i x hi hx ht k hk
    obtain ⟨k, rfl⟩ : ∃ m, k = m + 1 := ⟨k - 1, by omega⟩
    simp only [laws_markByteS.l0]
    rw [if_neg (by omega)]
    rw [List.take_of_length_le (by omega)] at ht
    obtain rfl : i = n := by omega
    rw [ht]
  | succ d ih =>
    intro i x hi hx ht k hk
    obtain ⟨k, rfl⟩ : ∃ m, k = m + 1 := ⟨k - 1, by omega⟩
    simp only [laws_markByteS.l0]
    rw [if_pos (by omega), if_pos (by omega), w64 (by omega) (by omega), w64 (by omega) (by omega), Int.toNat_natCast]
    have e1 : a + (i : Int) + 1 = a + ((i + 1 : Nat) : Int) := by omega
    have e2 : (i : Int) + 1 = ((i + 1 : Nat) : Int) := by omega
    rw [e1, e2]
    refine ih (i + 1) _ (by omega) (by simpa using hx) ?_ k (by omega)
    rw [List.range_succ, List.map_append, ← ht, List.take_add_one]
    simp [List.take_set_of_le, hx, show i < n by omega]
theorem markByteS_ev (a : Int) (ha : 0 ≤ a) (ha2 : a ≤ 4611686018427387904) (l : List Int) (hl : l.length ≤ 281474976710656) : Ev (fun k => laws_markByteS.f k l a) (a + l.length, markB a l) := by
  refine ⟨l.length + 1, fun k hk => ?_⟩
  simp only [laws_markByteS.f]
  have := markByteS_l a ha ha2 l.length hl l.length 0 l (by omega) rfl (by simp) k (by omega)
  simpa [markB] using this
theorem eqNode_e (x : S53) : laws_eqNode.f x.f0 x.f1 x.f2 x.f3 x.f4 x.f5 x.f6 x.f0 x.f1 x.f2 x.f3 x.f4 x.f5 x.f6 = some true := by
  simp [laws_eqNode.f]
theorem eqEffect_e (x : S55) : laws_eqEffect.f x.f0 x.f1.f0 x.f1.f1 x.f1.f2 x.f1.f3 x.f1.f4 x.f1.f5 x.f1.f6 x.f0 x.f1.f0 x.f1.f1 x.f1.f2 x.f1.f3 x.f1.f4 x.f1.f5 x.f1.f6 = some true := by
  simp only [laws_eqEffect.f]
  rw [if_neg (by simp), eqNode_e, Option.bind_some, if_pos rfl]
theorem eqEffectS_l (l : List S55) (hl : l.length ≤ 281474976710656) (d : Nat) : ∀ (i : Nat), i + d = l.length → Ev (fun k => laws_eqEffectS.l0 k l l i) true := by
  induction d with
  | zero => intro i hi; exact Ev.step (fun k => by simp only [laws_eqEffectS.l0]; exact if_neg (by omega)) (Ev.now _)
  | succ d ih =>
    intro i hi
    refine Ev.step (fun k => by simp only [laws_eqEffectS.l0]; rw [if_pos (by omega), if_pos (by omega), if_pos (by omega), w64 (by omega) (by omega), eqEffect_e, Option.bind_some]) ?_
    exact Ev.pos (by trivial) (ih (i + 1) (by omega))
theorem eqTxn_ev (z : Int) (l : List S55) (hl : l.length ≤ 281474976710656) : Ev (fun k => laws_eqTxn.f k z l z l) true := by
  simp only [laws_eqTxn.f, laws_eqEffectS.f]
  exact Ev.pos (by trivial) (Ev.bind (Ev.pos (by trivial) (eqEffectS_l l hl l.length 0 (by omega))) (Ev.pos (by trivial) (Ev.now _)))
theorem Ex.step {α : Type} {g f : Nat → Option α} {Q : α → Prop} (hs : ∀ k, g (k + 1) = f k) (h : ∃ r, Q r ∧ Ev f r) : ∃ r, Q r ∧ Ev g r := by obtain ⟨r, q, e⟩ := h; exact ⟨r, q, Ev.step hs e⟩
theorem Ex.bind {α β : Type} {g : Nat → Option α} {f : Nat → α → Option β} {a : α} {Q : β → Prop} (h : Ev g a) (k : ∃ r, Q r ∧ Ev (fun n => f n a) r) : ∃ r, Q r ∧ Ev (fun n => (g n).bind (f n)) r := by obtain ⟨r, q, e⟩ := k; exact ⟨r, q, Ev.bind h e⟩
theorem Ex.pos {α : Type} {c : Prop} [Decidable c] {f g : Nat → Option α} {Q : α → Prop} (hc : c) (h : ∃ r, Q r ∧ Ev f r) : ∃ r, Q r ∧ Ev (fun n => if c then f n else g n) r := by obtain ⟨r, q, e⟩ := h; exact ⟨r, q, Ev.pos hc e⟩
theorem Ex.neg {α : Type} {c : Prop} [Decidable c] {f g : Nat → Option α} {Q : α → Prop} (hc : ¬c) (h : ∃ r, Q r ∧ Ev g r) : ∃ r, Q r ∧ Ev (fun n => if c then f n else g n) r := by obtain ⟨r, q, e⟩ := h; exact ⟨r, q, Ev.neg hc e⟩
theorem Ex.set {α β : Type} {x : List α} {j : Nat} {v : α} {f : Nat → List α → Option β} {Q : β → Prop} (h : ∀ y : List α, y.length = x.length → ∃ r, Q r ∧ Ev (fun n => f n y) r) : ∃ r, Q r ∧ Ev (fun n => (some (x.set j v)).bind (f n)) r := by obtain ⟨r, q, e⟩ := h (x.set j v) (by simp); exact ⟨r, q, Ev.bindS rfl e⟩
theorem Ex.now {α : Type} {Q : α → Prop} (r : α) (h : Q r) : ∃ r, Q r ∧ Ev (fun _ => some r) r := ⟨r, h, Ev.now r⟩
theorem nums_size1 (x : Int) : (strOfNums [x]).size = 1 := rfl
theorem markText_l (n : Nat) : ∀ (a : Nat) (x : ByteArray), a < 10 ^ n → n ≤ 1000 → a ≤ 4611686018427387904 → x.size + n ≤ 1000000 → ∃ r : ByteArray, True ∧ Ev (fun k => laws_markText.l0 k a x) r := by
  induction n with
  | zero =>
    intro a x ha _ _ hx
    obtain rfl : a = 0 := by simpa using ha
    exact Ex.step (fun k => by simp only [laws_markText.l0]; rw [if_neg (by omega), if_pos (by omega)]) ⟨_, trivial, Ev.now _⟩
  | succ n ih =>
    intro a x ha hn ha2 hx
    by_cases h0 : a = 0
    · subst h0
      exact Ex.step (fun k => by simp only [laws_markText.l0]; rw [if_neg (by omega), if_pos (by omega)]) ⟨_, trivial, Ev.now _⟩
    · refine Ex.step (fun k => by simp only [laws_markText.l0, Option.bind_some]; rw [if_pos (by omega), show Int.tdiv (a : Int) 10 = ((a / 10 : Nat) : Int) from rfl, w64 (x := ((a / 10 : Nat) : Int)) (by omega) (by omega)]) ?_
      refine Ex.pos (by rw [nums_size1]; omega) ?_
      refine ih (a / 10) _ (by rw [Nat.pow_succ] at ha; omega) (by omega) (by omega) ?_
      rw [ByteArray.size_append, nums_size1]; omega
theorem markText_ev (a : Int) (h0 : 0 ≤ a) (h1 : a ≤ 4611686018427387904) : ∃ r : ByteArray, True ∧ Ev (fun k => laws_markText.f k a) r := by
  simp only [laws_markText.f]
  by_cases h : a ≤ 0
  · exact Ex.pos h ⟨_, trivial, Ev.now _⟩
  · refine Ex.neg h ?_
    obtain ⟨n, rfl⟩ := Int.eq_ofNat_of_zero_le h0
    refine markText_l 19 n _ (by omega) (by omega) (by omega) ?_
    show 0 + 19 ≤ _
    omega
theorem mtext_ex : ∃ M : Int → ByteArray, ∀ a, 0 ≤ a → a ≤ 4611686018427387904 → Ev (fun k => laws_markText.f k a) (M a) := by
  refine ⟨fun a => if h : 0 ≤ a ∧ a ≤ 4611686018427387904 then Classical.choose (markText_ev a h.1 h.2) else ByteArray.empty, fun a h0 h1 => ?_⟩
  simp only [dif_pos (And.intro h0 h1)]
  exact (Classical.choose_spec (markText_ev a h0 h1)).2
def mkE (M : Int → ByteArray) (a : Int) : S55 := ⟨(Int.tmod a 3 == 0), ⟨M (a + 1), M (a + 1 + 1), a + 1 + 1 + 1, a + 1 + 1 + 1 + 1, a + 1 + 1 + 1 + 1 + 1, a + 1 + 1 + 1 + 1 + 1 + 1, a + 1 + 1 + 1 + 1 + 1 + 1 + 1⟩⟩
def mkEL (M : Int → ByteArray) (n : Nat) : List S55 := (List.range n).map fun j => mkE M (1 + 8 * (j : Nat))
theorem w9 (a : Int) (i : Nat) (h0 : 0 ≤ a) (h1 : a ≤ 1000000000000000) (hi : i ≤ 281474976710656) : wrap64 (a + 1) = a + 1 ∧ wrap64 (a + 1 + 1) = a + 1 + 1 ∧ wrap64 (a + 1 + 1 + 1) = a + 1 + 1 + 1 ∧ wrap64 (a + 1 + 1 + 1 + 1) = a + 1 + 1 + 1 + 1 ∧ wrap64 (a + 1 + 1 + 1 + 1 + 1) = a + 1 + 1 + 1 + 1 + 1 ∧ wrap64 (a + 1 + 1 + 1 + 1 + 1 + 1) = a + 1 + 1 + 1 + 1 + 1 + 1 ∧ wrap64 (a + 1 + 1 + 1 + 1 + 1 + 1 + 1) = a + 1 + 1 + 1 + 1 + 1 + 1 + 1 ∧ wrap64 (a + 1 + 1 + 1 + 1 + 1 + 1 + 1 + 1) = a + 1 + 1 + 1 + 1 + 1 + 1 + 1 + 1 ∧ wrap64 ((i : Int) + 1) = ((i + 1 : Nat) : Int) :=
  ⟨w64 (by omega) (by omega), w64 (by omega) (by omega), w64 (by omega) (by omega), w64 (by omega) (by omega), w64 (by omega) (by omega), w64 (by omega) (by omega), w64 (by omega) (by omega), w64 (by omega) (by omega), w64 (by omega) (by omega)⟩
theorem markEffectS_x (M : Int → ByteArray) (hM : ∀ a, 0 ≤ a → a ≤ 4611686018427387904 → Ev (fun k => laws_markText.f k a) (M a)) (n : Nat) (hn : n ≤ 10000000) (d : Nat) : ∀ (i : Nat) (x : List S55) (a : Int), i + d = n → x.length = n → a = 1 + 8 * (i : Int) → (∀ j, j < i → x[j]? = some (mkE M (1 + 8 * (j : Int)))) → Ev (fun k => laws_markEffectS.l0 k x a i) (1 + 8 * (n : Int), mkEL M n) := by
  induction d with
  | zero =>
    intro i x a hi hx ha hq
    have e : x = mkEL M n := by
      apply List.ext_getElem?
      intro j
      by_cases hj : j < n
      · rw [hq j (by omega)]
        simp [mkEL, hj]
      · rw [List.getElem?_eq_none (by omega), List.getElem?_eq_none (by simp [mkEL]; omega)]
    rw [← e, show 1 + 8 * (n : Int) = a by omega]
    exact Ev.step (fun k => by simp only [laws_markEffectS.l0]; exact if_neg (by omega)) (Ev.now _)
  | succ d ih =>
    intro i x a hi hx ha hq
    have hlt : i < x.length := by omega
    have hrd : ∀ v, rd_T55 (x.set i v) (i : Int) = v := fun v => by simp [rd_T55, hlt]
    have g1 : (i : Int) < (x.length : Int) := by omega
    have g2 : 0 ≤ (i : Int) := by omega
    have m1 := hM (a + 1) (by omega) (by omega)
    have m2 := hM (a + 1 + 1) (by omega) (by omega)
    have fin := ih (i + 1) (x.set i (mkE M a)) (a + 1 + 1 + 1 + 1 + 1 + 1 + 1 + 1) (by omega) (by rw [List.length_set, hx]) (by omega) (fun j hj => by
      by_cases hji : j = i
      · subst hji
        rw [List.getElem?_set_self hlt, ha]
      · rw [List.getElem?_set_ne (Ne.symm hji)]
        exact hq j (by omega))
    obtain ⟨w1, w2, w3, w4, w5, w6, w7, w8, w9⟩ := w9 a i (by omega) (by omega) (by omega)
    refine Ev.step (fun k => by rw [laws_markEffectS.l0, if_pos g1]) ?_
    rw [w1, w2, w3, w4, w5, w6, w7, w8, w9]
    clear w1 w2 w3 w4 w5 w6 w7 w8 w9
    refine Ev.pos g2 (Ev.bindS rfl (Ev.bind m1 (Ev.bindS rfl ?_)))
    simp only [Int.toNat_natCast, hrd, List.set_set]
    refine Ev.bind m2 (Ev.bindS rfl ?_)
    simp only [hrd, List.set_set]
    refine Ev.bindS rfl ?_
    simp only [hrd, List.set_set]
    refine Ev.bindS rfl ?_
    simp only [hrd, List.set_set]
    refine Ev.bindS rfl ?_
    simp only [hrd, List.set_set]
    refine Ev.bindS rfl ?_
    simp only [hrd, List.set_set]
    exact fin
theorem heldEffectS_x (M : Int → ByteArray) (hM : ∀ a, 0 ≤ a → a ≤ 4611686018427387904 → Ev (fun k => laws_markText.f k a) (M a)) (n : Nat) (hn : n ≤ 10000000) (d : Nat) : ∀ (i : Nat) (a : Int), i + d = n → a = 1 + 8 * (i : Int) → Ev (fun k => laws_heldEffectS.l0 k (mkEL M n) a i) (1 + 8 * (n : Int)) := by
  have hl : (mkEL M n).length = n := by simp [mkEL]
  induction d with
  | zero =>
    intro i a hi ha
    rw [show 1 + 8 * (n : Int) = a by omega]
    exact Ev.step (fun k => by simp only [laws_heldEffectS.l0]; exact if_neg (by omega)) (Ev.now _)
  | succ d ih =>
    intro i a hi ha
    have hrd : rd_T55 (mkEL M n) (i : Int) = mkE M a := by
      rw [ha]
      simp [rd_T55, mkEL, show i < n by omega]
    have g1 : (i : Int) < ((mkEL M n).length : Int) := by omega
    have g2 : 0 ≤ (i : Int) := by omega
    have m1 := hM (a + 1) (by omega) (by omega)
    have m2 := hM (a + 1 + 1) (by omega) (by omega)
    have fin := ih (i + 1) (a + 1 + 1 + 1 + 1 + 1 + 1 + 1 + 1) (by omega) (by omega)
    obtain ⟨w1, w2, w3, w4, w5, w6, w7, w8, w9⟩ := w9 a i (by omega) (by omega) (by omega)
    refine Ev.step (fun k => by rw [laws_heldEffectS.l0, if_pos g1, if_pos g2]) ?_
    rw [w1, w2, w3, w4, w5, w6, w7, w8, w9, hrd]
    clear w1 w2 w3 w4 w5 w6 w7 w8 w9
    simp only [mkE]
    exact Ev.neg (by simp) (Ev.bind m1 (Ev.pos (by trivial) (Ev.bind m2 (Ev.pos (by trivial) (Ev.pos (by trivial) (Ev.pos (by trivial) (Ev.pos (by trivial) (Ev.pos (by trivial) (Ev.pos (by trivial) fin)))))))))
theorem FnExactDecodeTxn : laws_FnExactDecodeTxn.Pure := by
  intro l ⟨h1, h2⟩
  apply Ev.rounds
  simp only [laws_FnExactDecodeTxn.f]
  by_cases hl : (l.length : Int) > 1048576
  · exact Ev.pos hl (Ev.now _)
  have ok : bytesOk l := fun x hx => u8_wf (h2 x hx)
  have t := toByteS_ev l (by omega)
  obtain ⟨r, hr, es, ei⟩ := decTxnKey l ok (by omega)
  obtain ⟨M, hM⟩ := mtext_ex
  have eq : Ev (fun k => laws_eqTxnResult.f k r.1 r.2.1 r.2.2 r.1 r.2.1 r.2.2) true := by
    simp only [laws_eqTxnResult.f]
    exact Ev.neg (by simp) (Ev.bind (eqTxn_ev r.2.1 r.2.2 (by omega)) (Ev.pos (by trivial) (Ev.now _)))
  have em : Ev (fun k => laws_markTxnResult.f k r.1 r.2.1 r.2.2 1) (1 + 8 * (r.2.2.length : Int), mkEL M r.2.2.length) := by
    simp only [laws_markTxnResult.f, laws_markTxn.f, laws_markEffectS.f]
    exact Ev.bind (Ev.bind (markEffectS_x M hM r.2.2.length (by omega) r.2.2.length 0 r.2.2 1 (by omega) rfl (by omega) (fun j hj => absurd hj (Nat.not_lt_zero _))) (Ev.now _)) (Ev.now _)
  have eh : Ev (fun k => laws_heldTxnResult.f k r.1 r.2.1 (mkEL M r.2.2.length) 1) (1 + 8 * (r.2.2.length : Int)) := by
    simp only [laws_heldTxnResult.f, laws_heldTxn.f, laws_heldEffectS.f]
    exact Ev.bind (Ev.bind (heldEffectS_x M hM r.2.2.length (by omega) r.2.2.length 0 1 (by omega) (by omega)) (Ev.neg (by omega) (Ev.now _))) (Ev.neg (by omega) (Ev.now _))
  refine Ev.neg hl (Ev.bind t (Ev.bind es (Ev.bind t (Ev.bind ei (Ev.bind eq (Ev.pos (by trivial) (Ev.bind t (Ev.bind (eqByteS_ev l (by omega)) (Ev.pos (by trivial) (Ev.bind (markByteS_ev 1 (by omega) (by omega) l (by omega)) ?_))))))))))
  refine Ev.neg (by show ¬ ((1 : Int) + (l.length : Int) < 0); omega) (Ev.bind eq ?_)
  refine Ev.step (fun k => by simp only [laws_FnExactDecodeTxn.j0]; exact if_neg (by simp)) ?_
  refine Ev.bind em (Ev.bind eh (Ev.neg (by omega) (Ev.pos rfl ?_)))
  exact Ev.bind t (Ev.bind ei (Ev.bind eq (Ev.pos (by trivial) (Ev.now _))))

end Go.Proofs.YtejecjjimggjeaaDoor.Pure
