/- What is proved: the law FnExactEncodeTxn returns true: at every transaction of at most 2^20 letters and effects the program's EncodeTxn gives the reference's bytes (or nil), in memory of its own, and leaves its argument alone. Conditions: none but what the card's tie pays. -/
import Derived.Test.YtlpjpmfhkmddjaaDoorGFnExactEncodeTxnx19
import Derived.Lib.SplitLaws
import Derived.Lib.IndexBytes
import Derived.Lib.Bytes
namespace Go.Proofs.YtlpjpmfhkmddjaaDoor.Pure
open Go.RowKit Go.Proofs.YtlpjpmfhkmddjaaDoor.GFnExactEncodeTxn Go.Proofs.YtlpjpmfhkmddjaaDoorW.PrintWords Go.Proofs.YtlpjpmfhkmddjaaDoorW.PrintLast Go.Proofs.YtlpjpmfhkmddjaaDoorW.PrintMore
set_option linter.unusedVariables false
set_option linter.unusedSimpArgs false

theorem w64 {x : Int} (h0 : -9223372036854775808 ≤ x) (h1 : x < 9223372036854775808) : wrap64 x = x := by unfold wrap64; omega
theorem u8_wf {x : Int} (h : (Lit.int .u8 x).wf = true) : 0 ≤ x ∧ x ≤ 255 := by
  simp [Lit.wf, IntKind.min, IntKind.max, IntKind.signed, IntKind.bits] at h
  omega
theorem Ev.pos {α : Type} {c : Prop} [Decidable c] {f g : Nat → Option α} {r : α} (hc : c) (h : Ev f r) : Ev (fun n => if c then f n else g n) r := Ev.congr (fun _ => if_pos hc) h
theorem Ev.neg {α : Type} {c : Prop} [Decidable c] {f g : Nat → Option α} {r : α} (hc : ¬c) (h : Ev g r) : Ev (fun n => if c then f n else g n) r := Ev.congr (fun _ => if_neg hc) h
theorem Ev.ofE {α : Type} {f : Option α} {r : α} (h : f = some r) : Ev (fun _ => f) r := ⟨0, fun _ _ => h⟩
theorem Ev.bindS {α β : Type} {g : Option α} {f : Nat → α → Option β} {a : α} {r : β} (h : g = some a) (k : Ev (fun n => f n a) r) : Ev (fun n => g.bind (f n)) r := Ev.congr (fun _ => by rw [h]; rfl) k
def consHead (b : UInt8) : List (List UInt8) → List (List UInt8)
  | [] => [[b]]
  | h :: t => (b :: h) :: t
def spl : List UInt8 → List (List UInt8)
  | [] => [[]]
  | b :: l => if b = 47 then [] :: spl l else consHead b (spl l)
def consPre (p : List UInt8) : List (List UInt8) → List (List UInt8)
  | [] => [p]
  | h :: t => (p ++ h) :: t
theorem spl_ne (l : List UInt8) : ∃ h t, spl l = h :: t := by
  cases l with
  | nil => exact ⟨[], [], rfl⟩
  | cons b l =>
    unfold spl
    split
    · exact ⟨_, _, rfl⟩
    · cases spl l <;> exact ⟨_, _, rfl⟩
theorem spl_sum (l : List UInt8) : ((spl l).map List.length).sum + (spl l).length = l.length + 1 := by
  induction l with
  | nil => rfl
  | cons b l ih =>
    unfold spl
    split
    · simp; omega
    · obtain ⟨h, t, e⟩ := spl_ne l
      rw [e] at ih ⊢
      simp [consHead] at ih ⊢; omega
theorem splitK_spl (l : List UInt8) : Go.Lib.splitK [47] 0 (Go.Lib.count l [47]) l = spl l := by
  induction l with
  | nil => rw [Go.Lib.count_miss (by rfl)]; rfl
  | cons b l ih =>
    unfold spl
    by_cases hb : b = 47
    · subst hb
      rw [if_pos rfl, Go.Lib.count_cons_eq, Nat.add_comm 1]
      have hi : Go.Lib.index (47 :: l) [47] = 0 := by rw [Go.Lib.index]; simp [List.isPrefixOf]
      unfold Go.Lib.splitK
      rw [hi]
      simp [ih]
    · rw [if_neg hb, Go.Lib.count_cons_ne b 47 l hb]
      have hi : Go.Lib.index (b :: l) [47] = if Go.Lib.index l [47] == -1 then -1 else Go.Lib.index l [47] + 1 := by
        rw [Go.Lib.index]
        have : ([47] : List UInt8).isPrefixOf (b :: l) = false := by simp [List.isPrefixOf, Ne.symm hb]
        rw [this]; simp
      rw [← ih]
      cases hc : Go.Lib.count l [47] with
      | zero => rfl
      | succ k =>
        have hm : ¬ Go.Lib.index l [47] = -1 := fun e => by rw [Go.Lib.count_miss e] at hc; omega
        have hge := Go.Lib.index_ge l [47]
        obtain ⟨j, hj⟩ : ∃ j : Nat, Go.Lib.index l [47] = j := ⟨(Go.Lib.index l [47]).toNat, by omega⟩
        unfold Go.Lib.splitK
        rw [hi, hj]
        have h1 : ¬ (((j : Nat) : Int) == -1) = true := by simp
        rw [if_neg h1, if_neg h1, if_neg (by simp; omega)]
        simp only [consHead]
        have h2 : ((j : Int) + 1).toNat = j + 1 := by omega
        rw [h2, Int.toNat_natCast]
        simp
theorem data_inj {a b : ByteArray} (h : a.data.toList = b.data.toList) : a = b := by
  obtain ⟨⟨l⟩⟩ := a
  obtain ⟨⟨m⟩⟩ := b
  simp at h
  rw [h]
theorem map_inj {xs ys : List ByteArray} (h : xs.map (fun s => s.data.toList) = ys.map (fun s => s.data.toList)) : xs = ys := by
  induction xs generalizing ys with
  | nil => cases ys with
    | nil => rfl
    | cons _ _ => simp at h
  | cons x xs ih => cases ys with
    | nil => simp at h
    | cons y ys =>
      simp only [List.map_cons, List.cons.injEq] at h
      rw [data_inj h.1, ih h.2]
/-- The pieces of a text between slashes. -/
def names (s : ByteArray) : List ByteArray := (spl s.data.toList).map fun l => ⟨l.toArray⟩
theorem names_data (s : ByteArray) : (names s).map (fun s => s.data.toList) = spl s.data.toList := by
  unfold names; rw [List.map_map]; simp [Function.comp_def]
theorem count_le (l : List UInt8) : Go.Lib.count l [47] ≤ l.length := by rw [Go.Lib.count_one]; exact List.count_le_length
theorem implSplit (s : ByteArray) (h : s.size ≤ 1000000) : strings_Split.f s (⟨#[47]⟩ : ByteArray) = some (names s) := by
  unfold strings_Split.f
  have hc : Go.Lib.countB s ⟨#[47]⟩ ≤ s.size := by
    show Go.Lib.count s.data.toList [47] ≤ _
    rw [Go.Lib.size_eq]; exact count_le _
  rw [if_pos ⟨by omega, by decide, by omega⟩]
  congr 1
  apply map_inj
  rw [names_data, Go.Lib.splitB_data]
  exact splitK_spl _
theorem bt_list (s : ByteArray) (i : Nat) (h : i < s.size) : ∃ b : UInt8, s.data.toList[i]? = some b ∧ bt s i = (b.toNat : Int) := by
  have hl : i < s.data.toList.length := by rw [← Go.Lib.size_eq]; exact h
  refine ⟨s.data.toList[i], List.getElem?_eq_getElem hl, ?_⟩
  unfold bt
  rw [dif_pos (by simpa using h)]
  congr 2
theorem specNames_l (s : ByteArray) (hs : s.size ≤ 1048576) (d : Nat) : ∀ (f i : Nat), f ≤ i → i + d = s.size → ∃ q : List ByteArray, q.map (fun s => s.data.toList) = consPre ((s.data.toList.drop f).take (i - f)) (spl (s.data.toList.drop i)) ∧ ∀ acc : List ByteArray, acc.length ≤ i + 1 → Ev (fun k => spec_l3Names.l0 k s acc f i) (acc ++ q) := by
  have hn : s.data.toList.length = s.size := (Go.Lib.size_eq s).symm
  induction d with
  | zero =>
    intro f i hf hi
    have hi' : i = s.size := by omega
    subst hi'
    refine ⟨[s.extract f s.size], ?_, fun acc ha => ?_⟩
    · rw [List.drop_of_length_le (l := s.data.toList) (i := s.size) (by omega)]
      simp [spl, consPre, Go.Lib.extract_data]
    · refine Ev.step (fun k => by simp only [spec_l3Names.l0]; rw [if_pos (by omega), if_pos (by trivial), if_pos (by omega), if_pos (by omega), if_pos (by omega), w64 (by omega) (by omega), Int.toNat_natCast, Int.toNat_natCast]) ?_
      exact Ev.step (fun k => by simp only [spec_l3Names.l0]; exact if_neg (by omega)) (Ev.now _)
  | succ d ih =>
    intro f i hf hi
    obtain ⟨b, hb, eb⟩ := bt_list s i (by omega)
    have hd : s.data.toList.drop i = b :: s.data.toList.drop (i + 1) := by
      rw [List.drop_eq_getElem_cons (by omega)]
      rw [List.getElem?_eq_getElem (by omega)] at hb
      rw [Option.some.inj hb]
    by_cases h47 : b = 47
    · obtain ⟨q, hq, he⟩ := ih (i + 1) (i + 1) (Nat.le_refl _) (by omega)
      refine ⟨s.extract f i :: q, ?_, fun acc ha => ?_⟩
      · rw [List.map_cons, hq, hd, h47]
        obtain ⟨x, t, e⟩ := spl_ne (s.data.toList.drop (i + 1))
        simp [spl, consPre, Go.Lib.extract_data, e]
      · refine Ev.step (fun k => by simp only [spec_l3Names.l0]; rw [if_pos (by omega), if_neg (by omega), if_pos (by omega), if_pos (by omega), eb, if_pos (by rw [h47]; rfl), if_pos (by omega), if_pos (by omega), if_pos (by omega), w64 (by omega) (by omega), Int.toNat_natCast, Int.toNat_natCast]) ?_
        have := he (acc ++ [s.extract f i]) (by simp; omega)
        rw [List.append_assoc] at this
        exact this
    · obtain ⟨q, hq, he⟩ := ih f (i + 1) (by omega) (by omega)
      refine ⟨q, ?_, fun acc ha => ?_⟩
      · rw [hq, hd]
        have h1 : spl (b :: s.data.toList.drop (i + 1)) = consHead b (spl (s.data.toList.drop (i + 1))) := by rw [spl, if_neg h47]
        obtain ⟨x, t, e⟩ := spl_ne (s.data.toList.drop (i + 1))
        rw [h1, e]
        simp only [consHead, consPre]
        congr 1
        rw [show i + 1 - f = (i - f) + 1 by omega, List.take_add_one, List.append_assoc]
        congr 1
        rw [List.getElem?_drop, show f + (i - f) = i by omega, hb]
        rfl
      · have hne : ¬ ((b.toNat : Int) = 47) := fun e => h47 (by
          have : b.toNat = 47 := by omega
          exact UInt8.toNat_inj.mp (by rw [this]; rfl))
        refine Ev.step (fun k => by simp only [spec_l3Names.l0]; rw [if_pos (by omega), if_neg (by omega), if_pos (by omega), if_pos (by omega), eb, if_neg hne, w64 (by omega) (by omega)]) ?_
        exact he acc (by omega)
theorem specNames_ev (s : ByteArray) (h1 : 1 ≤ s.size) (hs : s.size ≤ 1048576) : Ev (fun k => spec_l3Names.f k s) (names (s.extract 1 s.size)) := by
  obtain ⟨q, hq, he⟩ := specNames_l s hs (s.size - 1) 1 1 (Nat.le_refl _) (by omega)
  have e : q = names (s.extract 1 s.size) := by
    apply map_inj
    rw [names_data, hq, Go.Lib.extract_to_end]
    obtain ⟨x, t, e⟩ := spl_ne (s.data.toList.drop 1)
    rw [e]
    simp [consPre]
  rw [← e]
  simp only [spec_l3Names.f]
  exact he [] (by simp)

def letter (b : UInt8) : Bool := (decide (97 ≤ b.toNat) && decide (b.toNat ≤ 122)) || (decide (48 ≤ b.toNat) && decide (b.toNat ≤ 57))
def okName (s : ByteArray) : Bool := s.data.toList.all letter && decide (1 ≤ s.size) && decide (s.size ≤ 16)
theorem drop_cons (s : ByteArray) (i : Nat) (b : UInt8) (h : s.data.toList[i]? = some b) : s.data.toList.drop i = b :: s.data.toList.drop (i + 1) := by
  obtain ⟨hl, e⟩ := List.getElem?_eq_some_iff.1 h
  rw [List.drop_eq_getElem_cons hl, e]
theorem implName_l (s : ByteArray) (hs : s.size ≤ 1048576) (d : Nat) : ∀ (i : Nat), i + d = s.size → Ev (fun k => impl_validName.l0 k s (s.size : Int) i) ((s.data.toList.drop i).all letter && decide (1 ≤ s.size) && decide (s.size ≤ 16)) := by
  induction d with
  | zero =>
    intro i hi
    rw [List.drop_of_length_le (by rw [← Go.Lib.size_eq]; omega)]
    refine Ev.step (fun k => by simp only [impl_validName.l0]; exact if_neg (by omega)) ?_
    by_cases h1 : 1 ≤ s.size
    · refine Ev.pos (by omega) ?_
      rw [decide_eq_true h1]
      simp only [List.all_nil, Bool.true_and]
      refine Ev.congr (fun k => ?_) (Ev.now _)
      congr 1
      by_cases h2 : s.size ≤ 16
      · rw [decide_eq_true h2, decide_eq_true (by omega)]
      · rw [decide_eq_false h2, decide_eq_false (by omega)]
    · rw [decide_eq_false h1]
      simp only [List.all_nil, Bool.true_and, Bool.false_and]
      exact Ev.neg (by omega) (Ev.now _)
  | succ d ih =>
    intro i hi
    obtain ⟨b, hb, eb⟩ := bt_list s i (by omega)
    have hlt := b.toNat_lt
    rw [drop_cons s i b hb, List.all_cons]
    refine Ev.step (fun k => by simp only [impl_validName.l0]; rw [if_pos (by omega), if_pos (by omega), if_pos (by omega), eb, w64 (by omega) (by omega)]) ?_
    by_cases hl : letter b = true
    · rw [hl, Bool.true_and]
      have := ih (i + 1) (by omega)
      simp only [letter, Bool.or_eq_true, Bool.and_eq_true, decide_eq_true_eq] at hl
      by_cases c1 : (b.toNat : Int) < 97
      · exact Ev.pos c1 (Ev.neg (by omega) (Ev.neg (by omega) this))
      · exact Ev.neg c1 (Ev.neg (by omega) this)
    · have hl' : letter b = false := by simpa using hl
      rw [hl']
      simp only [Bool.false_and]
      simp only [letter, Bool.or_eq_true, Bool.and_eq_true, decide_eq_true_eq] at hl
      by_cases c1 : (b.toNat : Int) < 97
      · by_cases c2 : (b.toNat : Int) < 48
        · exact Ev.pos c1 (Ev.pos c2 (Ev.now _))
        · exact Ev.pos c1 (Ev.neg c2 (Ev.pos (by omega) (Ev.now _)))
      · exact Ev.neg c1 (Ev.pos (by omega) (Ev.neg (by omega) (Ev.pos (by omega) (Ev.now _))))
theorem implName_ev (s : ByteArray) (hs : s.size ≤ 1048576) : Ev (fun k => impl_validName.f k s) (okName s) := by
  simp only [impl_validName.f]
  exact implName_l s hs s.size 0 (by omega)
theorem specLetter_e (b : UInt8) : spec_l3Letter.f (b.toNat : Int) = some (letter b) := by
  simp only [spec_l3Letter.f]
  by_cases c1 : (b.toNat : Int) ≥ 97
  · rw [if_pos c1]
    by_cases c2 : (b.toNat : Int) ≤ 122
    · rw [if_pos c2]; congr 1; simp only [letter]; rw [decide_eq_true (by omega), decide_eq_true (by omega)]; rfl
    · rw [if_neg c2, if_pos (by omega)]
      congr 1; simp only [letter]; rw [decide_eq_false (by omega), decide_eq_false (p := b.toNat ≤ 122) (by omega), decide_eq_false (p := b.toNat ≤ 57) (by omega)]; simp
  · rw [if_neg c1]
    by_cases c3 : (b.toNat : Int) ≥ 48
    · rw [if_pos c3]
      congr 1; simp only [letter]; rw [decide_eq_false (p := 97 ≤ b.toNat) (by omega), decide_eq_true (p := 48 ≤ b.toNat) (by omega)]
      by_cases c4 : b.toNat ≤ 57
      · rw [decide_eq_true c4, decide_eq_true (by omega)]; rfl
      · rw [decide_eq_false c4, decide_eq_false (by omega)]; rfl
    · rw [if_neg c3]
      congr 1; simp only [letter]; rw [decide_eq_false (p := 97 ≤ b.toNat) (by omega), decide_eq_false (p := 48 ≤ b.toNat) (by omega)]; rfl
theorem rdN (l : List ByteArray) (i : Nat) (h : i < l.length) : rdOf ByteArray.empty l i = l[i] := by simp [rdOf, h]
theorem specName_1 (l : List ByteArray) (i : Nat) (hi : i < l.length) (hl : l.length ≤ 1048577) (hs : l[i].size ≤ 1048576) (r : Bool) (hk : l[i].data.toList.all letter = true → Ev (fun k => spec_ValidPath.l0 k l ((i + 1 : Nat) : Int)) r) (hf : l[i].data.toList.all letter = false → r = false) (d : Nat) : ∀ (j : Nat), j + d = l[i].size → (l[i].data.toList.take j).all letter = true → Ev (fun k => spec_ValidPath.l1 k l i j) r := by
  induction d with
  | zero =>
    intro j hj ht
    refine Ev.step (fun k => by simp only [spec_ValidPath.l1]; rw [if_pos (by omega), if_pos (by omega), rdN l i hi, if_neg (by omega), w64 (by omega) (by omega)]) ?_
    rw [List.take_of_length_le (by rw [← Go.Lib.size_eq]; omega)] at ht
    exact hk ht
  | succ d ih =>
    intro j hj ht
    obtain ⟨b, hb, eb⟩ := bt_list l[i] j (by omega)
    refine Ev.step (fun k => by simp only [spec_ValidPath.l1]; rw [if_pos (by omega), if_pos (by omega), rdN l i hi, if_pos (by omega), if_pos (by omega), eb, specLetter_e, Option.bind_some, w64 (by omega) (by omega)]) ?_
    by_cases hlb : letter b = true
    · refine Ev.pos hlb (ih (j + 1) (by omega) ?_)
      rw [List.take_add_one, hb, List.all_append, ht]
      simp [hlb]
    · refine Ev.neg hlb ?_
      have : r = false := by
        apply hf
        rw [← List.take_append_drop j l[i].data.toList, drop_cons _ j b hb, List.all_append, List.all_cons]
        simp [hlb]
      rw [this]; exact Ev.now _
theorem specAll_l (l : List ByteArray) (hl : l.length ≤ 1048577) (hs : ∀ x ∈ l, x.size ≤ 1048576) (d : Nat) : ∀ (i : Nat), i + d = l.length → Ev (fun k => spec_ValidPath.l0 k l i) ((l.drop i).all okName) := by
  induction d with
  | zero =>
    intro i hi
    rw [List.drop_of_length_le (by omega)]
    exact Ev.step (fun k => by simp only [spec_ValidPath.l0]; exact if_neg (by omega)) (Ev.now _)
  | succ d ih =>
    intro i hi
    rw [List.drop_eq_getElem_cons (by omega), List.all_cons]
    refine Ev.step (fun k => by simp only [spec_ValidPath.l0]; rw [if_pos (by omega), if_pos (by omega), rdN l i (by omega)]) ?_
    by_cases c1 : l[i].size < 1
    · have : okName l[i] = false := by simp only [okName]; rw [decide_eq_false (by omega)]; simp
      rw [this, Bool.false_and]
      exact Ev.pos (by omega) (Ev.step (fun k => by simp only [spec_ValidPath.j2]; exact if_pos (by trivial)) (Ev.now _))
    refine Ev.neg (by omega) ?_
    by_cases c2 : l[i].size ≤ 16
    · rw [decide_eq_false (by omega)]
      refine Ev.step (fun k => by simp only [spec_ValidPath.j2]; exact if_neg (by simp)) ?_
      refine specName_1 l i (by omega) hl (hs _ (List.getElem_mem _)) _ (fun h => ?_) (fun h => ?_) l[i].size 0 (by omega) (by simp)
      · have : okName l[i] = true := by simp only [okName, h]; rw [decide_eq_true (by omega), decide_eq_true c2]; rfl
        rw [this, Bool.true_and]
        exact ih (i + 1) (by omega)
      · have : okName l[i] = false := by simp only [okName, h]; rfl
        rw [this, Bool.false_and]
    · have : okName l[i] = false := by simp only [okName]; rw [decide_eq_false c2]; simp
      rw [this, Bool.false_and, decide_eq_true (by omega)]
      exact Ev.step (fun k => by simp only [spec_ValidPath.j2]; exact if_pos (by trivial)) (Ev.now _)
theorem implAll_l (l : List ByteArray) (hl : l.length ≤ 1048577) (hs : ∀ x ∈ l, x.size ≤ 1048576) (d : Nat) : ∀ (i : Nat), i + d = l.length → Ev (fun k => impl_ValidPath.l0 k l l (l.length : Int) i) ((l.drop i).all okName && decide (l.length ≤ 6)) := by
  induction d with
  | zero =>
    intro i hi
    rw [List.drop_of_length_le (by omega)]
    refine Ev.step (fun k => by simp only [impl_ValidPath.l0]; exact if_neg (by omega)) ?_
    simp only [List.all_nil, Bool.true_and]
    refine Ev.congr (fun k => ?_) (Ev.now _)
    congr 1
    by_cases h2 : l.length ≤ 6
    · rw [decide_eq_true h2, decide_eq_true (by omega)]
    · rw [decide_eq_false h2, decide_eq_false (by omega)]
  | succ d ih =>
    intro i hi
    rw [List.drop_eq_getElem_cons (by omega), List.all_cons]
    refine Ev.step (fun k => by simp only [impl_ValidPath.l0]; rw [if_pos (by omega), if_pos (by omega), if_pos (by omega), rdN l i (by omega), w64 (by omega) (by omega)]) ?_
    refine Ev.bind (implName_ev l[i] (hs _ (List.getElem_mem _))) ?_
    by_cases c : okName l[i] = true
    · rw [c, Bool.true_and]; exact Ev.pos (by trivial) (ih (i + 1) (by omega))
    · have c' : okName l[i] = false := by simpa using c
      rw [c']
      simp only [Bool.false_and]
      exact Ev.neg (by simp) (Ev.now _)
/-- What both answer. -/
def okPath (s : ByteArray) : Bool := if s.data.toList = [47] then true else decide (2 ≤ s.size) && decide (s.data.toList.head? = some 47) && decide ((names (s.extract 1 s.size)).length ≤ 6) && (names (s.extract 1 s.size)).all okName
theorem names_len (s : ByteArray) : (names s).length ≤ s.size + 1 := by
  have h := spl_sum s.data.toList
  have e := Go.Lib.size_eq s
  have e2 : (names s).length = (spl s.data.toList).length := by simp [names]
  omega
theorem names_size (s : ByteArray) : ∀ x ∈ names s, x.size ≤ s.size := by
  intro x hx
  obtain ⟨l, hl, rfl⟩ := List.mem_map.mp hx
  have h := spl_sum s.data.toList
  have h2 : ∀ (L : List (List UInt8)), l ∈ L → l.length ≤ (L.map List.length).sum := by
    intro L hm
    induction L with
    | nil => cases hm
    | cons a L ih =>
      rcases List.mem_cons.mp hm with rfl | hm
      · simp
      · have := ih hm; simp; omega
  have h3 := h2 _ hl
  obtain ⟨a, t, e⟩ := spl_ne s.data.toList
  have h4 : 1 ≤ (spl s.data.toList).length := by rw [e]; simp
  rw [Go.Lib.size_eq, Go.Lib.size_eq]
  show l.toArray.toList.length ≤ _
  simp at h ⊢; omega
theorem names_bound (s : ByteArray) (h1 : (names s).length ≤ 6) (h2 : (names s).all okName = true) : s.size ≤ 101 := by
  have h := spl_sum s.data.toList
  have h3 : ∀ (L : List (List UInt8)), (L.map fun l => (⟨l.toArray⟩ : ByteArray)).all okName = true → (L.map List.length).sum ≤ 16 * L.length := by
    intro L
    induction L with
    | nil => intro _; simp
    | cons a L ih =>
      intro hL
      simp only [List.map_cons, List.all_cons, Bool.and_eq_true] at hL
      have h5 := ih hL.2
      have h6 : a.length ≤ 16 := by
        have := hL.1
        simp only [okName, Bool.and_eq_true, decide_eq_true_eq] at this
        have := this.2
        rw [Go.Lib.size_eq] at this
        simpa using this
      simp only [List.map_cons, List.sum_cons, List.length_cons]
      omega
  have h7 := h3 _ h2
  have h8 : (spl s.data.toList).length ≤ 6 := by simpa [names] using h1
  rw [Go.Lib.size_eq]
  omega
theorem ext_size1 (s : ByteArray) : (s.extract 1 s.size).size = s.size - 1 := by rw [ByteArray.size_extract]; omega
theorem specPath_ev (s : ByteArray) (hs : s.size ≤ 1048576) : Ev (fun k => spec_ValidPath.f k s) (okPath s) := by
  simp only [spec_ValidPath.f]
  rw [Go.Lib.toList_data]
  unfold okPath
  by_cases h0 : s.data.toList = [47]
  · rw [if_pos h0]; exact Ev.pos h0 (Ev.now _)
  rw [if_neg h0]
  refine Ev.neg h0 ?_
  by_cases h1 : s.size < 2
  · rw [decide_eq_false (by omega)]
    simp only [Bool.false_and]
    exact Ev.pos (by omega) (Ev.step (fun k => by simp only [spec_ValidPath.j0]; exact if_pos (by trivial)) (Ev.now _))
  refine Ev.neg (by omega) (Ev.pos (by omega) ?_)
  obtain ⟨b, hb, eb⟩ := bt_list s 0 (by omega)
  have eb' : bt s 0 = (b.toNat : Int) := eb
  have hh : s.data.toList.head? = some b := by rw [List.head?_eq_getElem?]; exact hb
  rw [eb', hh, decide_eq_true (p := 2 ≤ s.size) (by omega), Bool.true_and]
  by_cases h47 : b = 47
  · subst h47
    rw [decide_eq_true rfl, Bool.true_and]
    refine Ev.step (fun k => by simp only [spec_ValidPath.j0]; exact if_neg (by decide)) ?_
    refine Ev.bind (specNames_ev s (by omega) hs) ?_
    by_cases h6 : (names (s.extract 1 s.size)).length ≤ 6
    · rw [decide_eq_true h6, Bool.true_and]
      refine Ev.neg (by omega) ?_
      have hn := names_len (s.extract 1 s.size)
      rw [ext_size1] at hn
      exact specAll_l _ (by omega) (fun x hx => by have := names_size _ x hx; rw [ext_size1] at this; omega) (names (s.extract 1 s.size)).length 0 (by omega)
    · rw [decide_eq_false h6, Bool.false_and]
      exact Ev.pos (by omega) (Ev.now _)
  · rw [decide_eq_false (by simpa using h47)]
    simp only [Bool.false_and]
    have : ((b.toNat : Int) != 47) = true := by
      have : b.toNat ≠ 47 := fun e => h47 (UInt8.toNat_inj.mp (by rw [e]; rfl))
      simp; omega
    rw [this]
    exact Ev.step (fun k => by simp only [spec_ValidPath.j0]; exact if_pos (by trivial)) (Ev.now _)
theorem cut_e (s : ByteArray) : ∃ p : Bool, p = decide (s.data.toList.head? = some 47) ∧ strings_CutPrefix.f s (⟨#[47]⟩ : ByteArray) = some (if p = true then (s.extract 1 s.size, true) else (s, false)) := by
  refine ⟨_, rfl, ?_⟩
  simp only [strings_CutPrefix.f, stringslite_CutPrefix.f, stringslite_HasPrefix.f]
  have e1 : ((⟨#[47]⟩ : ByteArray).size : Int) = 1 := rfl
  rw [e1]
  by_cases h1 : (s.size : Int) ≥ 1
  · rw [if_pos h1, if_pos (by omega), if_pos (by omega), Option.bind_some]
    have e2 : (s.extract 0 (1 : Int).toNat).toList = s.data.toList.take 1 := by
      rw [Go.Lib.extract_toList]; simp
    have e3 : (⟨#[47]⟩ : ByteArray).toList = [47] := by rw [Go.Lib.toList_data]
    rw [e2, e3]
    have hne : s.data.toList ≠ [] := fun e => by rw [Go.Lib.size_eq, e] at h1; simp at h1
    obtain ⟨b, t, e⟩ := List.exists_cons_of_ne_nil hne
    rw [e]
    by_cases hb : b = 47
    · subst hb; simp
      rw [if_pos (by omega)]; rfl
    · simp [hb]
  · rw [if_neg h1, Option.bind_some]
    have : s.data.toList = [] := by
      have h2 : s.data.toList.length = 0 := by rw [← Go.Lib.size_eq]; omega
      exact List.length_eq_zero_iff.mp h2
    rw [this]; simp
theorem implPath_ev (s : ByteArray) (hs : s.size ≤ 1048576) : Ev (fun k => impl_ValidPath.f k s) (okPath s) := by
  simp only [impl_ValidPath.f]
  rw [Go.Lib.toList_data]
  unfold okPath
  by_cases h0 : s.data.toList = [47]
  · rw [if_pos h0]; exact Ev.pos h0 (Ev.now _)
  rw [if_neg h0]
  refine Ev.neg h0 ?_
  obtain ⟨p, hp, hc⟩ := cut_e s
  refine Ev.bindS hc ?_
  by_cases h47 : s.data.toList.head? = some 47
  · rw [decide_eq_true h47] at hp
    subst hp
    rw [decide_eq_true h47, Bool.and_true]
    have h2 : 2 ≤ s.size := by
      rw [Go.Lib.size_eq]
      cases e : s.data.toList with
      | nil => rw [e] at h47; cases h47
      | cons b t =>
        rw [e] at h47 h0
        cases t with
        | nil => simp at h47; simp [h47] at h0
        | cons _ _ => simp
    rw [decide_eq_true h2, Bool.true_and]
    refine Ev.pos (by trivial) ?_
    by_cases h102 : s.size ≤ 102
    · rw [decide_eq_false (by omega)]
      refine Ev.step (fun k => by simp only [impl_ValidPath.j0]; exact if_neg (by simp)) ?_
      refine Ev.bindS (implSplit (s.extract 1 s.size) (by rw [ext_size1]; omega)) ?_
      have hn := names_len (s.extract 1 s.size)
      rw [ext_size1] at hn
      rw [Bool.and_comm]
      exact implAll_l _ (by omega) (fun x hx => by have := names_size _ x hx; rw [ext_size1] at this; omega) (names (s.extract 1 s.size)).length 0 (by omega)
    · rw [decide_eq_true (by omega)]
      have : (decide ((names (s.extract 1 s.size)).length ≤ 6) && (names (s.extract 1 s.size)).all okName) = false := by
        cases h : (decide ((names (s.extract 1 s.size)).length ≤ 6) && (names (s.extract 1 s.size)).all okName) with
        | false => rfl
        | true =>
          simp only [Bool.and_eq_true, decide_eq_true_eq] at h
          have := names_bound _ h.1 h.2
          rw [ext_size1] at this
          omega
      rw [this]
      exact Ev.step (fun k => by simp only [impl_ValidPath.j0]; exact if_pos (by trivial)) (Ev.now _)
  · rw [decide_eq_false h47] at hp
    subst hp
    rw [decide_eq_false h47]
    simp only [Bool.and_false, Bool.false_and]
    exact Ev.neg (by simp) (Ev.step (fun k => by simp only [impl_ValidPath.j0]; exact if_pos (by trivial)) (Ev.now _))

def inSt (v : Int) : Bool := decide (0 ≤ v) && decide (v ≤ 2147483647)
theorem stat_e (v : Int) : spec_l3Stat.f v = some (inSt v) := by
  simp only [spec_l3Stat.f, inSt]
  by_cases h : v ≥ 0
  · rw [if_pos h, decide_eq_true (p := 0 ≤ v) h, Bool.true_and]
  · rw [if_neg h, decide_eq_false (p := 0 ≤ v) h, Bool.false_and]
theorem inSt_i (v : Int) : inSt v = decide (inStat v) := by
  unfold inSt inStat
  by_cases h1 : 0 ≤ v <;> by_cases h2 : v ≤ 2147483647 <;> simp [h1, h2]
def okNode (x : S64) : Bool := okPath x.f0 && decide (x.f1.size ≤ 64) && inSt x.f2 && inSt x.f3 && inSt x.f4 && inSt x.f5 && inSt x.f6
theorem specNode_ev (x : S64) (h : x.f0.size ≤ 1048576) : Ev (fun k => spec_l3ValidNode.f k x.f0 x.f1 x.f2 x.f3 x.f4 x.f5 x.f6) (okNode x) := by
  simp only [spec_l3ValidNode.f, okNode]
  refine Ev.bind (specPath_ev _ h) ?_
  cases okPath x.f0 with
  | false => simp only [Bool.false_and]; exact Ev.neg (by simp) (Ev.now _)
  | true =>
    refine Ev.pos (by trivial) ?_
    by_cases h1 : x.f1.size ≤ 64
    rotate_left
    · rw [decide_eq_false h1]; simp only [Bool.and_false, Bool.false_and]; exact Ev.neg (by omega) (Ev.now _)
    rw [decide_eq_true h1]
    simp only [Bool.true_and]
    refine Ev.pos (by omega) (Ev.bindS (stat_e _) ?_)
    cases inSt x.f2 with
    | false => simp only [Bool.false_and]; exact Ev.neg (by simp) (Ev.now _)
    | true =>
    simp only [Bool.true_and]
    refine Ev.pos (by trivial) (Ev.bindS (stat_e _) ?_)
    cases inSt x.f3 with
    | false => simp only [Bool.false_and]; exact Ev.neg (by simp) (Ev.now _)
    | true =>
    simp only [Bool.true_and]
    refine Ev.pos (by trivial) (Ev.bindS (stat_e _) ?_)
    cases inSt x.f4 with
    | false => simp only [Bool.false_and]; exact Ev.neg (by simp) (Ev.now _)
    | true =>
    simp only [Bool.true_and]
    refine Ev.pos (by trivial) (Ev.bindS (stat_e _) ?_)
    cases inSt x.f5 with
    | false => simp only [Bool.false_and]; exact Ev.neg (by simp) (Ev.now _)
    | true =>
    simp only [Bool.true_and]
    exact Ev.pos (by trivial) (Ev.bindS (stat_e _) (Ev.now _))
theorem implNode_ev (x : S64) (h : x.f0.size ≤ 1048576) : Ev (fun k => impl_Node_valid.f k x.f0 x.f1 x.f2 x.f3 x.f4 x.f5 x.f6) (okNode x) := by
  simp only [impl_Node_valid.f, okNode]
  by_cases hs : inStat x.f2 ∧ inStat x.f3 ∧ inStat x.f4 ∧ inStat x.f5 ∧ inStat x.f6
  · have ⟨s1, s2, s3, s4, s5⟩ := hs
    rw [inSt_i, inSt_i, inSt_i, inSt_i, inSt_i, decide_eq_true s1, decide_eq_true s2, decide_eq_true s3, decide_eq_true s4, decide_eq_true s5]
    simp only [Bool.and_true]
    refine Ev.pos hs (Ev.bind (implPath_ev _ h) ?_)
    cases okPath x.f0 with
    | false => simp only [Bool.false_and]; exact Ev.neg (by simp) (Ev.now _)
    | true =>
      refine Ev.pos (by trivial) (Ev.congr (fun k => ?_) (Ev.now _))
      congr 1
      by_cases h1 : x.f1.size ≤ 64
      · rw [decide_eq_true h1, decide_eq_true (by omega)]; rfl
      · rw [decide_eq_false h1, decide_eq_false (by omega)]; rfl
  · have : (okPath x.f0 && decide (x.f1.size ≤ 64) && inSt x.f2 && inSt x.f3 && inSt x.f4 && inSt x.f5 && inSt x.f6) = false := by
      cases e : (okPath x.f0 && decide (x.f1.size ≤ 64) && inSt x.f2 && inSt x.f3 && inSt x.f4 && inSt x.f5 && inSt x.f6) with
      | false => rfl
      | true =>
        simp only [Bool.and_eq_true, inSt_i, decide_eq_true_eq] at e
        exact absurd ⟨e.1.1.1.1.2, e.1.1.1.2, e.1.1.2, e.1.2, e.2⟩ hs
    rw [this]
    exact Ev.neg hs (Ev.now _)

def dirty (x : S66) : Bool := !(x.f1.f1.toList == ([] : List UInt8)) || (!(x.f1.f2 == 0) || (!(x.f1.f3 == 0) || (!(x.f1.f4 == 0) || (!(x.f1.f5 == 0) || (!(x.f1.f6 == 0))))))
def lastOf (l : List S66) (i : Nat) : ByteArray := if i = 0 then (⟨#[]⟩ : ByteArray) else (rd_T66 l ((i : Int) - 1)).f1.f0
def okEFrom (l : List S66) : Nat → Bool
  | 0 => true
  | d + 1 => okNode (rd_T66 l ((l.length - (d + 1) : Nat) : Int)).f1 && Go.Op.bytesLess (lastOf l (l.length - (d + 1))).toList ((rd_T66 l ((l.length - (d + 1) : Nat) : Int)).f1.f0.toList) && !((rd_T66 l ((l.length - (d + 1) : Nat) : Int)).f0 && dirty (rd_T66 l ((l.length - (d + 1) : Nat) : Int))) && okEFrom l d
theorem rdEff (l : List S66) (i : Nat) (h : i < l.length) : rd_T66 l i = l[i] := by simp [rd_T66, h]
theorem okPath_ne (s : ByteArray) (h : okPath s = true) : Go.Op.bytesLess ((⟨#[]⟩ : ByteArray).toList) s.toList = true := by
  have hs : s.data.toList ≠ [] := by
    intro e
    unfold okPath at h
    rw [e, if_neg (by simp)] at h
    have : s.size = 0 := by rw [Go.Lib.size_eq, e]; rfl
    rw [this] at h
    simp at h
  obtain ⟨b, t, e⟩ := List.exists_cons_of_ne_nil hs
  rw [Go.Lib.toList_data, Go.Lib.toList_data, e]
  rfl
theorem implTxn_l (l : List S66) (hl : l.length ≤ 1048576) (hs : ∀ x ∈ l, x.f1.f0.size ≤ 1048576) (d : Nat) : ∀ (i : Nat), i + d = l.length → Ev (fun k => impl_ValidTxn.l0 k (lastOf l i) l (l.length : Int) i) (okEFrom l d) := by
  induction d with
  | zero => intro i hi; exact Ev.step (fun k => by simp only [impl_ValidTxn.l0]; exact if_neg (by omega)) (Ev.now _)
  | succ d ih =>
    intro i hi
    obtain rfl : i = l.length - (d + 1) := by omega
    have hi2 : l.length - (d + 1) < l.length := by omega
    have hn := ih (l.length - (d + 1) + 1) (by omega)
    have hlast : lastOf l (l.length - (d + 1) + 1) = (rd_T66 l ((l.length - (d + 1) : Nat) : Int)).f1.f0 := by
      unfold lastOf
      rw [if_neg (by omega), show ((l.length - (d + 1) + 1 : Nat) : Int) - 1 = ((l.length - (d + 1) : Nat) : Int) by omega]
    rw [hlast] at hn
    refine Ev.step (fun k => by simp only [impl_ValidTxn.l0]; rw [if_pos (by omega), if_pos (by omega), if_pos (by omega), w64 (by omega) (by omega)]) ?_
    simp only [okEFrom]
    have hx : (rd_T66 l ((l.length - (d + 1) : Nat) : Int)).f1.f0.size ≤ 1048576 := by rw [rdEff l _ hi2]; exact hs _ (List.getElem_mem _)
    refine Ev.bind (implNode_ev _ hx) ?_
    cases okNode (rd_T66 l ((l.length - (d + 1) : Nat) : Int)).f1 with
    | false => simp only [Bool.false_and]; exact Ev.neg (by simp) (Ev.now _)
    | true =>
      simp only [Bool.true_and]
      refine Ev.pos (by trivial) ?_
      cases hless : Go.Op.bytesLess (lastOf l (l.length - (d + 1))).toList ((rd_T66 l ((l.length - (d + 1) : Nat) : Int)).f1.f0.toList) with
      | false => simp only [Bool.false_and]; exact Ev.neg (by simp) (Ev.now _)
      | true =>
        simp only [Bool.true_and]
        refine Ev.pos (by trivial) ?_
        cases (rd_T66 l ((l.length - (d + 1) : Nat) : Int)).f0 with
        | false => simp only [Bool.false_and, Bool.not_false, Bool.true_and]; exact Ev.neg (by simp) hn
        | true =>
          simp only [Bool.true_and]
          refine Ev.pos (by trivial) ?_
          by_cases hd : dirty (rd_T66 l ((l.length - (d + 1) : Nat) : Int)) = true
          · rw [hd]; simp only [Bool.not_true, Bool.false_and]; exact Ev.pos hd (Ev.now _)
          · have hd' : dirty (rd_T66 l ((l.length - (d + 1) : Nat) : Int)) = false := by simpa using hd
            rw [hd']; simp only [Bool.not_false, Bool.true_and]; exact Ev.neg hd hn
theorem specTxn_l (z : Int) (l : List S66) (hl : l.length ≤ 1048576) (hs : ∀ x ∈ l, x.f1.f0.size ≤ 1048576) (d : Nat) : ∀ (i : Nat), i + d = l.length → Ev (fun k => spec_ValidTxn.l0 k i z l) (okEFrom l d) := by
  induction d with
  | zero => intro i hi; exact Ev.step (fun k => by simp only [spec_ValidTxn.l0]; exact if_neg (by omega)) (Ev.now _)
  | succ d ih =>
    intro i hi
    obtain rfl : i = l.length - (d + 1) := by omega
    have hi2 : l.length - (d + 1) < l.length := by omega
    have hn := ih (l.length - (d + 1) + 1) (by omega)
    refine Ev.step (fun k => by simp only [spec_ValidTxn.l0]; rw [if_pos (by omega), if_pos (by omega)]) ?_
    simp only [okEFrom]
    have hx : (rd_T66 l ((l.length - (d + 1) : Nat) : Int)).f1.f0.size ≤ 1048576 := by rw [rdEff l _ hi2]; exact hs _ (List.getElem_mem _)
    refine Ev.bind (specNode_ev _ hx) ?_
    cases hok : okNode (rd_T66 l ((l.length - (d + 1) : Nat) : Int)).f1 with
    | false => simp only [Bool.false_and]; exact Ev.neg (by simp) (Ev.step (fun k => by simp only [spec_ValidTxn.j2]; exact if_pos (by trivial)) (Ev.now _))
    | true =>
      simp only [Bool.true_and]
      refine Ev.pos (by trivial) ?_
      have tail : Ev (fun k => if (rd_T66 l ((l.length - (d + 1) : Nat) : Int)).f0 = true then (if dirty (rd_T66 l ((l.length - (d + 1) : Nat) : Int)) = true then some false else spec_ValidTxn.l0 k ((l.length - (d + 1) + 1 : Nat) : Int) z l) else spec_ValidTxn.l0 k ((l.length - (d + 1) + 1 : Nat) : Int) z l) (!((rd_T66 l ((l.length - (d + 1) : Nat) : Int)).f0 && dirty (rd_T66 l ((l.length - (d + 1) : Nat) : Int))) && okEFrom l d) := by
        cases (rd_T66 l ((l.length - (d + 1) : Nat) : Int)).f0 with
        | false => simp only [Bool.false_and, Bool.not_false, Bool.true_and]; exact Ev.neg (by simp) hn
        | true =>
          simp only [Bool.true_and]
          refine Ev.pos (by trivial) ?_
          by_cases hd : dirty (rd_T66 l ((l.length - (d + 1) : Nat) : Int)) = true
          · rw [hd]; simp only [Bool.not_true, Bool.false_and]; exact Ev.pos (by trivial) (Ev.now _)
          · have hd' : dirty (rd_T66 l ((l.length - (d + 1) : Nat) : Int)) = false := by simpa using hd
            rw [hd']; simp only [Bool.not_false, Bool.true_and]; exact Ev.neg (by simp) hn
      by_cases h0 : l.length - (d + 1) = 0
      · have hp : okPath (rd_T66 l ((l.length - (d + 1) : Nat) : Int)).f1.f0 = true := by
          simp only [okNode, Bool.and_eq_true] at hok
          exact hok.1.1.1.1.1.1
        have : lastOf l (l.length - (d + 1)) = ⟨#[]⟩ := by unfold lastOf; rw [if_pos h0]
        rw [this, okPath_ne _ hp, Bool.true_and]
        refine Ev.neg (by omega) (Ev.step (fun k => by simp only [spec_ValidTxn.j2]; rw [if_neg (by simp), w64 (by omega) (by omega)]) ?_)
        exact tail
      · have : lastOf l (l.length - (d + 1)) = (rd_T66 l (((l.length - (d + 1) : Nat) : Int) - 1)).f1.f0 := by unfold lastOf; rw [if_neg h0]
        rw [this]
        refine Ev.pos (by omega) (Ev.congr (fun k => by rw [w64 (by omega) (by omega)]) ?_)
        refine Ev.pos (by omega) (Ev.pos (by omega) ?_)
        cases Go.Op.bytesLess ((rd_T66 l (((l.length - (d + 1) : Nat) : Int) - 1)).f1.f0.toList) ((rd_T66 l ((l.length - (d + 1) : Nat) : Int)).f1.f0.toList) with
        | false => simp only [Bool.false_and]; exact Ev.step (fun k => by simp only [spec_ValidTxn.j2]; exact if_pos (by rfl)) (Ev.now _)
        | true =>
          rw [Bool.true_and]
          refine Ev.step (fun k => by simp only [spec_ValidTxn.j2]; rw [if_neg (by simp), w64 (by omega) (by omega)]) ?_
          exact tail
def okTxn (z : Int) (l : List S66) : Bool := decide (1 ≤ z) && decide (z ≤ 2147483647) && decide (l.length ≤ 1000) && okEFrom l l.length
theorem specTxn_ev (z : Int) (l : List S66) (hl : l.length ≤ 1048576) (hs : ∀ x ∈ l, x.f1.f0.size ≤ 1048576) : Ev (fun k => spec_ValidTxn.f k z l) (okTxn z l) := by
  simp only [spec_ValidTxn.f, okTxn]
  have j1 : Ev (fun k => spec_ValidTxn.j0 k true z l) false := Ev.step (fun k => by simp only [spec_ValidTxn.j0]; exact if_pos (by trivial)) (Ev.now _)
  by_cases h1 : z < 1
  · rw [decide_eq_false (p := 1 ≤ z) (by omega)]; simp only [Bool.false_and]; exact Ev.pos h1 j1
  rw [decide_eq_true (p := 1 ≤ z) (by omega)]
  refine Ev.neg h1 ?_
  by_cases h2 : z > 2147483647
  · rw [decide_eq_false (p := z ≤ 2147483647) (by omega)]; simp only [Bool.and_false, Bool.false_and]; exact Ev.pos h2 j1
  rw [decide_eq_true (p := z ≤ 2147483647) (by omega)]
  refine Ev.neg h2 ?_
  by_cases h3 : l.length ≤ 1000
  · rw [decide_eq_true h3, decide_eq_false (by omega)]
    simp only [Bool.true_and]
    exact Ev.step (fun k => by simp only [spec_ValidTxn.j0]; exact if_neg (by simp)) (specTxn_l z l hl hs l.length 0 (by omega))
  · rw [decide_eq_false h3, decide_eq_true (by omega)]; simp only [Bool.true_and, Bool.false_and]; exact j1
theorem implTxn_ev (z : Int) (l : List S66) (hl : l.length ≤ 1048576) (hs : ∀ x ∈ l, x.f1.f0.size ≤ 1048576) : Ev (fun k => impl_ValidTxn.f k z l) (okTxn z l) := by
  simp only [impl_ValidTxn.f, okTxn]
  have j1 : Ev (fun k => impl_ValidTxn.j0 k true z l) false := Ev.step (fun k => by simp only [impl_ValidTxn.j0]; exact if_pos (by trivial)) (Ev.now _)
  by_cases h1 : z < 1
  · rw [decide_eq_false (p := 1 ≤ z) (by omega)]; simp only [Bool.false_and]; exact Ev.pos h1 j1
  rw [decide_eq_true (p := 1 ≤ z) (by omega)]
  refine Ev.neg h1 ?_
  by_cases h2 : z > 2147483647
  · rw [decide_eq_false (p := z ≤ 2147483647) (by omega)]; simp only [Bool.and_false, Bool.false_and]; exact Ev.pos h2 j1
  rw [decide_eq_true (p := z ≤ 2147483647) (by omega)]
  refine Ev.neg h2 ?_
  by_cases h3 : l.length ≤ 1000
  · rw [decide_eq_true h3, decide_eq_false (by omega)]
    simp only [Bool.true_and]
    refine Ev.step (fun k => by simp only [impl_ValidTxn.j0]; exact if_neg (by simp)) ?_
    have := implTxn_l l hl hs l.length 0 (by omega)
    unfold lastOf at this
    rw [if_pos rfl] at this
    exact this
  · rw [decide_eq_false h3, decide_eq_true (by omega)]; simp only [Bool.true_and, Bool.false_and]; exact j1

def beB : Nat → Nat → List Int
  | 0, _ => []
  | n + 1, v => beB n (v / 256) ++ [((v % 256 : Nat) : Int)]
theorem beB_len (n : Nat) : ∀ v, (beB n v).length = n := by
  induction n with
  | zero => intro v; rfl
  | succ n ih => intro v; simp [beB, ih]
theorem beB_head (n : Nat) : ∀ v, beB (n + 1) v = ((v / 256 ^ n % 256 : Nat) : Int) :: beB n v := by
  induction n with
  | zero => intro v; simp [beB]
  | succ n ih =>
    intro v
    rw [show beB (n + 1 + 1) v = beB (n + 1) (v / 256) ++ [((v % 256 : Nat) : Int)] from rfl, ih, show beB (n + 1) v = beB n (v / 256) ++ [((v % 256 : Nat) : Int)] from rfl, Nat.div_div_eq_div_mul, Nat.pow_succ, Nat.mul_comm 256]
    rfl
theorem specBig_ev (n : Nat) : ∀ (v : Nat), v < 9223372036854775808 → n ≤ 1000 → Ev (fun k => spec_l4Big.f k v n) (beB n v) := by
  induction n with
  | zero => intro v _ _; exact Ev.step (fun k => by simp only [spec_l4Big.f]; exact if_pos (by rfl)) (Ev.now _)
  | succ n ih =>
    intro v hv hn
    refine Ev.step (fun k => by simp only [spec_l4Big.f]; rw [if_neg (by omega), show Int.tdiv (v : Int) 256 = ((v / 256 : Nat) : Int) from rfl, show Int.tmod (v : Int) 256 = ((v % 256 : Nat) : Int) from rfl, w64 (by omega) (by omega), w64 (by omega) (by omega), show ((n + 1 : Nat) : Int) - 1 = (n : Int) by omega]) ?_
    refine Ev.bind (ih (v / 256) (by omega) (by omega)) (Ev.pos (by rw [beB_len]; omega) ?_)
    rw [show ((v % 256 : Nat) : Int) % 256 = ((v % 256 : Nat) : Int) by omega]
    exact Ev.now _
theorem implBig_l (v : Nat) (hv : v < 9223372036854775808) (n : Nat) : ∀ (x : List Int), n ≤ 8 → x.length + n ≤ 1000100 → Ev (fun k => impl_big.l0 k x v ((n : Int) - 1)) (x ++ beB n v) := by
  induction n with
  | zero => intro x _ _; simpa [beB] using (Ev.step (fun k => by simp only [impl_big.l0]; exact if_neg (by omega)) (Ev.now x) : Ev (fun k => impl_big.l0 k x v (((0 : Nat) : Int) - 1)) x)
  | succ n ih =>
    intro x hn hx
    have e : (shr .u64 (IntKind.u64.wrap (v : Int)) (8 * (n : Int))) % 256 = ((v / 256 ^ n % 256 : Nat) : Int) := by
      have h1 : IntKind.u64.wrap (v : Int) = (v : Int) := by
        show (v : Int) % 18446744073709551616 = v
        omega
      rw [h1]
      unfold shr
      have h2 : min (8 * (n : Int)).toNat IntKind.u64.bits = 8 * n := by
        show min (8 * (n : Int)).toNat 64 = 8 * n
        omega
      have h3 : (2 : Int) ^ (8 * n) = ((256 ^ n : Nat) : Int) := by rw [show (256 : Nat) = 2 ^ 8 from rfl, ← Nat.pow_mul]; simp
      rw [h2, h3]
      rfl
    refine Ev.step (fun k => by simp only [impl_big.l0]; rw [show ((n + 1 : Nat) : Int) - 1 = (n : Int) by omega, w64 (by omega) (by omega), w64 (by omega) (by omega), e]) ?_
    refine Ev.pos (by omega) (Ev.pos (by omega) (Ev.pos (by omega) ?_))
    rw [beB_head, show x ++ ((v / 256 ^ n % 256 : Nat) : Int) :: beB n v = (x ++ [((v / 256 ^ n % 256 : Nat) : Int)]) ++ beB n v by simp]
    refine ih (x ++ [((v / 256 ^ n % 256 : Nat) : Int)]) (by omega) ?_
    rw [List.length_append, List.length_singleton]; omega
theorem implBig_ev (x : List Int) (n : Nat) (v : Nat) (hv : v < 9223372036854775808) (hn : n ≤ 8) (hx : x.length ≤ 1000000) : Ev (fun k => impl_big.f k x n v) (x ++ beB n v) := by
  simp only [impl_big.f]
  rw [w64 (by omega) (by omega)]
  exact implBig_l v hv n x hn (by omega)

theorem okPath_size (s : ByteArray) (h : okPath s = true) : s.size ≤ 102 := by
  unfold okPath at h
  split at h
  · rename_i hh
    have := congrArg List.length hh
    rw [data_length] at this
    simp at this; omega
  · simp only [Bool.and_eq_true, decide_eq_true_eq] at h
    have := names_bound _ h.1.2 h.2
    rw [ext_size1] at this; omega
structure NodeB (x : S64) : Prop where
  p : x.f0.size ≤ 102
  d : x.f1.size ≤ 64
  a : 0 ≤ x.f2 ∧ x.f2 ≤ 2147483647
  b : 0 ≤ x.f3 ∧ x.f3 ≤ 2147483647
  c : 0 ≤ x.f4 ∧ x.f4 ≤ 2147483647
  e : 0 ≤ x.f5 ∧ x.f5 ≤ 2147483647
  f : 0 ≤ x.f6 ∧ x.f6 ≤ 2147483647
theorem okNode_b (x : S64) (h : okNode x = true) : NodeB x := by
  unfold okNode inSt at h
  simp only [Bool.and_eq_true, decide_eq_true_eq] at h
  obtain ⟨⟨⟨⟨⟨⟨h0, h1⟩, h2⟩, h3⟩, h4⟩, h5⟩, h6⟩ := h
  exact ⟨okPath_size _ h0, h1, h2, h3, h4, h5, h6⟩
def txt (s : ByteArray) : List Int := [(s.size : Int) % 256] ++ bytesOf s
theorem txt_len (s : ByteArray) : (txt s).length = s.size + 1 := by rw [txt, List.length_append, bytesOf_length]; simp; omega
def nums5 (x : S64) : List Int := beB 4 x.f2.toNat ++ beB 4 x.f3.toNat ++ beB 4 x.f4.toNat ++ beB 4 x.f5.toNat ++ beB 4 x.f6.toNat
theorem nums5_len (x : S64) : (nums5 x).length = 20 := by simp [nums5, beB_len]
def img (x : S64) : List Int := txt x.f0 ++ txt x.f1 ++ nums5 x
theorem img_len (x : S64) (h : NodeB x) : (img x).length ≤ 188 := by
  have := h.p; have := h.d
  rw [img, List.length_append, List.length_append, txt_len, txt_len, nums5_len]; omega
theorem specText_e (s : ByteArray) (h : s.size ≤ 1048576) : spec_l4Text.f s = some (txt s) := by
  simp only [spec_l4Text.f, Option.bind_some]
  rw [if_pos (by simp; omega)]; rfl
theorem specNodeI_ev (x : S64) (h : NodeB x) : Ev (fun k => spec_l4Node.f k x.f0 x.f1 x.f2 x.f3 x.f4 x.f5 x.f6) (img x) := by
  obtain ⟨hp, hd, ha, hb, hc, he, hf⟩ := h
  have big : ∀ v : Int, 0 ≤ v ∧ v ≤ 2147483647 → Ev (fun k => spec_l4Big.f k v 4) (beB 4 v.toNat) := fun v hv => by
    have := specBig_ev 4 v.toNat (by omega) (by omega)
    rwa [show ((v.toNat : Nat) : Int) = v by omega] at this
  simp only [spec_l4Node.f, Option.bind_some]
  have t0 := txt_len x.f0
  have t1 := txt_len x.f1
  have l4 : ∀ v, (beB 4 v).length = 4 := beB_len 4
  refine Ev.bindS (specText_e _ (by omega)) (Ev.bindS (specText_e _ (by omega)) (Ev.pos (by omega) ?_))
  refine Ev.bind (big _ ha) (Ev.pos (by simp only [List.length_append, l4]; omega) ?_)
  refine Ev.bind (big _ hb) (Ev.pos (by simp only [List.length_append, l4]; omega) ?_)
  refine Ev.bind (big _ hc) (Ev.pos (by simp only [List.length_append, l4]; omega) ?_)
  refine Ev.bind (big _ he) (Ev.pos (by simp only [List.length_append, l4]; omega) ?_)
  refine Ev.bind (big _ hf) (Ev.pos (by simp only [List.length_append, l4]; omega) ?_)
  have e : img x = txt x.f0 ++ txt x.f1 ++ beB 4 x.f2.toNat ++ beB 4 x.f3.toNat ++ beB 4 x.f4.toNat ++ beB 4 x.f5.toNat ++ beB 4 x.f6.toNat := by simp [img, nums5, List.append_assoc]
  rw [e]; exact Ev.now _
theorem five0 (a b c d e : Int) : YtlpjpmfhkmddjaaDoorH.five a b c d e 0 = a ∧ YtlpjpmfhkmddjaaDoorH.five a b c d e 1 = b ∧ YtlpjpmfhkmddjaaDoorH.five a b c d e 2 = c ∧ YtlpjpmfhkmddjaaDoorH.five a b c d e 3 = d ∧ YtlpjpmfhkmddjaaDoorH.five a b c d e 4 = e := ⟨rfl, rfl, rfl, rfl, rfl⟩
theorem putNode_ev (x : S64) (h : NodeB x) (o : List Int) (ho : o.length ≤ 900000) : Ev (fun k => impl_nodeImage_put.f k x.f0 x.f1 x.f2 x.f3 x.f4 x.f5 x.f6 o) (o ++ img x) := by
  obtain ⟨hp, hd, ha, hb, hc, he, hf⟩ := h
  have big : ∀ (v : Int) (y : List Int), 0 ≤ v ∧ v ≤ 2147483647 → y.length ≤ 1000000 → Ev (fun k => impl_big.f k y 4 v) (y ++ beB 4 v.toNat) := fun v y hv hy => by
    have := implBig_ev y 4 v.toNat (by omega) (by omega) hy
    rwa [show ((v.toNat : Nat) : Int) = v by omega] at this
  simp only [impl_nodeImage_put.f, Option.bind_some]
  have b0 := bytesOf_length x.f0
  have b1 := bytesOf_length x.f1
  have l4 : ∀ v, (beB 4 v).length = 4 := beB_len 4
  have s1 : ∀ q : Int, [q].length = 1 := fun _ => rfl
  have f := five0 x.f2 x.f3 x.f4 x.f5 x.f6
  refine Ev.pos (by omega) (Ev.pos (by simp only [List.length_append, s1]; omega) (Ev.pos (by simp only [List.length_append, s1]; omega) (Ev.pos (by simp only [List.length_append, s1]; omega) ?_)))
  have hL : (o ++ [(x.f0.size : Int) % 256] ++ bytesOf x.f0 ++ [(x.f1.size : Int) % 256] ++ bytesOf x.f1).length ≤ 999000 := by simp only [List.length_append, s1]; omega
  have hE : o ++ img x = (o ++ [(x.f0.size : Int) % 256] ++ bytesOf x.f0 ++ [(x.f1.size : Int) % 256] ++ bytesOf x.f1) ++ beB 4 x.f2.toNat ++ beB 4 x.f3.toNat ++ beB 4 x.f4.toNat ++ beB 4 x.f5.toNat ++ beB 4 x.f6.toNat := by simp [img, txt, nums5, List.append_assoc]
  rw [hE]
  generalize o ++ [(x.f0.size : Int) % 256] ++ bytesOf x.f0 ++ [(x.f1.size : Int) % 256] ++ bytesOf x.f1 = y at hL ⊢
  refine Ev.step (fun k => by simp only [impl_nodeImage_put.l0]; rw [if_pos (by omega), if_pos (by omega), f.1, show wrap64 ((0 : Int) + 1) = 1 by unfold wrap64; omega]) (Ev.bind (big _ _ ha (by omega)) ?_)
  refine Ev.step (fun k => by simp only [impl_nodeImage_put.l0]; rw [if_pos (by omega), if_pos (by omega), f.2.1, show wrap64 ((1 : Int) + 1) = 2 by unfold wrap64; omega]) (Ev.bind (big _ _ hb (by simp only [List.length_append, l4]; omega)) ?_)
  refine Ev.step (fun k => by simp only [impl_nodeImage_put.l0]; rw [if_pos (by omega), if_pos (by omega), f.2.2.1, show wrap64 ((2 : Int) + 1) = 3 by unfold wrap64; omega]) (Ev.bind (big _ _ hc (by simp only [List.length_append, l4]; omega)) ?_)
  refine Ev.step (fun k => by simp only [impl_nodeImage_put.l0]; rw [if_pos (by omega), if_pos (by omega), f.2.2.2.1, show wrap64 ((3 : Int) + 1) = 4 by unfold wrap64; omega]) (Ev.bind (big _ _ he (by simp only [List.length_append, l4]; omega)) ?_)
  refine Ev.step (fun k => by simp only [impl_nodeImage_put.l0]; rw [if_pos (by omega), if_pos (by omega), f.2.2.2.2, show wrap64 ((4 : Int) + 1) = 5 by unfold wrap64; omega]) (Ev.bind (big _ _ hf (by simp only [List.length_append, l4]; omega)) ?_)
  exact Ev.step (fun k => by simp only [impl_nodeImage_put.l0]; exact if_neg (by omega)) (Ev.now _)
theorem okEFrom_at (l : List S66) (d : Nat) : ∀ (i : Nat), i + d = l.length → okEFrom l d = true → ∀ j, i ≤ j → j < l.length → NodeB (rd_T66 l j).f1 := by
  induction d with
  | zero => intro i hi _ j h1 h2; omega
  | succ d ih =>
    intro i hi h j h1 h2
    simp only [okEFrom, Bool.and_eq_true] at h
    obtain rfl : i = l.length - (d + 1) := by omega
    by_cases hj : j = l.length - (d + 1)
    · subst hj; exact okNode_b _ h.1.1.1
    · exact ih (l.length - (d + 1) + 1) (by omega) h.2 j (by omega) h2
def imgE (x : S66) : List Int := if x.f0 = true then [2] ++ txt x.f1.f0 else [1] ++ img x.f1
theorem imgE_len (x : S66) (h : NodeB x.f1) : (imgE x).length ≤ 189 := by
  have := h.p
  have := img_len _ h
  unfold imgE; split
  · rw [List.length_append, txt_len]; simp; omega
  · rw [List.length_append]; simp; omega
def imgEs (z : Int) (l : List S66) (i : Nat) : List Int := beB 4 z.toNat ++ beB 2 l.length ++ ((List.range i).map fun j => imgE (rd_T66 l (j : Nat))).flatten
theorem imgEs_succ (z : Int) (l : List S66) (i : Nat) : imgEs z l (i + 1) = imgEs z l i ++ imgE (rd_T66 l (i : Nat)) := by simp [imgEs, List.range_succ]
theorem imgEs_len (z : Int) (l : List S66) (h : ∀ j, j < l.length → NodeB (rd_T66 l j).f1) (i : Nat) (hi : i ≤ l.length) : (imgEs z l i).length ≤ 6 + 189 * i := by
  induction i with
  | zero => simp [imgEs, beB_len]
  | succ i ih => rw [imgEs_succ, List.length_append]; have := ih (by omega); have := imgE_len _ (h i (by omega)); omega
theorem putEff_ev (x : S66) (h : NodeB x.f1) (o : List Int) (ho : o.length ≤ 800000) : Ev (fun k => impl_effectImage_put.f k x.f1.f0 x.f1.f1 x.f1.f2 x.f1.f3 x.f1.f4 x.f1.f5 x.f1.f6 x.f0 o) (o ++ imgE x) := by
  have hp := h.p
  have b0 := bytesOf_length x.f1.f0
  simp only [impl_effectImage_put.f, imgE, Option.bind_some]
  by_cases c : x.f0 = true
  · rw [if_pos c]
    refine Ev.pos c (Ev.pos (by simp; omega) (Ev.pos (by simp; omega) ?_))
    have e : o ++ ([2] ++ txt x.f1.f0) = o ++ [2, (x.f1.f0.size : Int) % 256] ++ bytesOf x.f1.f0 := by simp [txt]
    rw [e]; exact Ev.now _
  · rw [if_neg c]
    refine Ev.neg c (Ev.pos (by omega) (Ev.bind (putNode_ev _ h _ (by simp; omega)) ?_))
    rw [List.append_assoc]; exact Ev.now _
theorem specEffs_l (z : Int) (l : List S66) (hl : l.length ≤ 1000) (h : ∀ j, j < l.length → NodeB (rd_T66 l j).f1) (d : Nat) : ∀ (i : Nat), i + d = l.length → Ev (fun k => spec_EncodeTxn.l0 k (imgEs z l i) i z l) (imgEs z l l.length) := by
  induction d with
  | zero => intro i hi; obtain rfl : i = l.length := by omega
            exact Ev.step (fun k => by simp only [spec_EncodeTxn.l0]; exact if_neg (by omega)) (Ev.now _)
  | succ d ih =>
    intro i hi
    have hL := imgEs_len z l h i (by omega)
    have hb := h i (by omega)
    have hp := hb.p
    have hI := img_len _ hb
    have ht := txt_len (rd_T66 l (i : Nat)).f1.f0
    have hn := ih (i + 1) (by omega)
    rw [imgEs_succ] at hn
    have g1 : (i : Int) < (l.length : Int) := by omega
    have g2 : 0 ≤ (i : Int) := by omega
    have g3 : wrap64 ((i : Int) + 1) = ((i + 1 : Nat) : Int) := by rw [w64 (by omega) (by omega)]; omega
    refine Ev.step (fun k => by simp only [spec_EncodeTxn.l0, Option.bind_some]; rw [if_pos g1, if_pos g2, g3]) ?_
    clear g3
    by_cases c : (rd_T66 l (i : Nat)).f0 = true
    · rw [imgE, if_pos c, ← List.append_assoc] at hn
      refine Ev.pos c (Ev.pos (by omega) (Ev.bindS (specText_e _ (by omega)) (Ev.pos (by simp only [List.length_append, List.length_singleton]; omega) hn)))
    · rw [imgE, if_neg c, ← List.append_assoc] at hn
      refine Ev.neg c (Ev.pos (by omega) (Ev.bind (specNodeI_ev _ hb) (Ev.pos (by simp only [List.length_append, List.length_singleton]; omega) hn)))
theorem implEffs_l (z : Int) (l : List S66) (hl : l.length ≤ 1000) (h : ∀ j, j < l.length → NodeB (rd_T66 l j).f1) (d : Nat) : ∀ (i : Nat), i + d = l.length → Ev (fun k => impl_EncodeTxn.l0 k (imgEs z l i) l (l.length : Int) i) (imgEs z l l.length) := by
  induction d with
  | zero => intro i hi; obtain rfl : i = l.length := by omega
            exact Ev.step (fun k => by simp only [impl_EncodeTxn.l0]; exact if_neg (by omega)) (Ev.now _)
  | succ d ih =>
    intro i hi
    have hL := imgEs_len z l h i (by omega)
    have hn := ih (i + 1) (by omega)
    rw [imgEs_succ] at hn
    refine Ev.step (fun k => by simp only [impl_EncodeTxn.l0]; rw [if_pos (by omega), if_pos (by omega), if_pos (by omega), w64 (by omega) (by omega)]) ?_
    exact Ev.bind (putEff_ev _ (h i (by omega)) _ (by omega)) hn
def encTxn (z : Int) (l : List S66) : List Int := if okTxn z l = true then imgEs z l l.length else []
theorem okTxn_b (z : Int) (l : List S66) (h : okTxn z l = true) : (1 ≤ z ∧ z ≤ 2147483647) ∧ l.length ≤ 1000 ∧ ∀ j, j < l.length → NodeB (rd_T66 l j).f1 := by
  unfold okTxn at h
  simp only [Bool.and_eq_true, decide_eq_true_eq] at h
  exact ⟨h.1.1, h.1.2, fun j hj => okEFrom_at l l.length 0 (by omega) h.2 j (by omega) hj⟩
theorem encTxn_len (z : Int) (l : List S66) : (encTxn z l).length ≤ 190000 := by
  unfold encTxn; split
  · rename_i h; have ⟨_, h1, h2⟩ := okTxn_b z l h; have := imgEs_len z l h2 l.length (by omega); omega
  · simp
theorem specEncTxn_ev (z : Int) (l : List S66) (hl : l.length ≤ 1048576) (hs : ∀ x ∈ l, x.f1.f0.size ≤ 1048576) : Ev (fun k => spec_EncodeTxn.f k z l) (encTxn z l) := by
  simp only [spec_EncodeTxn.f, encTxn]
  refine Ev.bind (specTxn_ev z l hl hs) ?_
  by_cases h : okTxn z l = true
  · rw [h]; have ⟨hz, h1, h2⟩ := okTxn_b z l h
    have b1 := specBig_ev 4 z.toNat (by omega) (by omega)
    rw [show ((z.toNat : Nat) : Int) = z by omega] at b1
    have b2 := specBig_ev 2 l.length (by omega) (by omega)
    refine Ev.pos rfl (Ev.bind b1 (Ev.bind b2 (Ev.pos (by simp [beB_len]) ?_)))
    have := specEffs_l z l h1 h2 l.length 0 (by omega)
    simpa [imgEs] using this
  · rw [if_neg h]; exact Ev.neg h (Ev.now _)
theorem implEncTxn_ev (z : Int) (l : List S66) (hl : l.length ≤ 1048576) (hs : ∀ x ∈ l, x.f1.f0.size ≤ 1048576) : Ev (fun k => impl_EncodeTxn.f k z l) (encTxn z l) := by
  simp only [impl_EncodeTxn.f, encTxn]
  refine Ev.bind (implTxn_ev z l hl hs) ?_
  by_cases h : okTxn z l = true
  · rw [h]; have ⟨hz, h1, h2⟩ := okTxn_b z l h
    have b1 := implBig_ev [] 4 z.toNat (by omega) (by omega) (by simp)
    rw [show ((z.toNat : Nat) : Int) = z by omega, List.nil_append] at b1
    have b2 := implBig_ev (beB 4 z.toNat) 2 l.length (by omega) (by omega) (by rw [beB_len]; omega)
    refine Ev.pos rfl (Ev.bind b1 (Ev.bind b2 ?_))
    have := implEffs_l z l h1 h2 l.length 0 (by omega)
    simpa [imgEs] using this
  · rw [if_neg h]; exact Ev.neg h (Ev.now _)
def cvN (x : S85) : S64 := ⟨x.f0, x.f1, x.f2, x.f3, x.f4, x.f5, x.f6⟩
theorem szNode_e (x : S85) (a : Int) (h0 : x.f0.size ≤ 9223372036854775807) (h1 : x.f1.size ≤ 9223372036854775807) (ha : 0 ≤ a) (ha2 : a ≤ 281474976710656) : ∃ r, laws_szNode.f x.f0 x.f1 x.f2 x.f3 x.f4 x.f5 x.f6 a = some r ∧ (r = -1 ∨ 0 ≤ r ∧ r + x.f0.size + x.f1.size = a) := by
  simp only [laws_szNode.f]
  rw [w64 (x := a - (x.f0.size : Int)) (by omega) (by omega)]
  by_cases h : a - (x.f0.size : Int) < 0
  · exact ⟨-1, if_pos h, Or.inl rfl⟩
  rw [if_neg h, w64 (by omega) (by omega)]
  by_cases h2 : a - (x.f0.size : Int) - (x.f1.size : Int) < 0
  · exact ⟨-1, if_pos h2, Or.inl rfl⟩
  · exact ⟨_, if_neg h2, Or.inr ⟨by omega, by omega⟩⟩
theorem eqNode_e (x : S64) : laws_eqNode.f x.f0 x.f1 x.f2 x.f3 x.f4 x.f5 x.f6 x.f0 x.f1 x.f2 x.f3 x.f4 x.f5 x.f6 = some true := by
  simp [laws_eqNode.f]

def cvE (x : S90) : S66 := ⟨x.f0, cvN x.f1⟩
theorem toEffectS_l (l : List S90) (hl : l.length ≤ 281474976710656) (d : Nat) : ∀ (i : Nat) (y : List S66), i + d = l.length → y.length = l.length → y.take i = (l.map cvE).take i → Ev (fun k => laws_toEffectS.l0 k l y i) (l.map cvE) := by
  induction d with
  | zero =>
    intro i y hi hy ht
    refine Ev.step (fun k => by simp only [laws_toEffectS.l0]; exact if_neg (by omega)) ?_
    rw [List.take_of_length_le (by omega), List.take_of_length_le (by simp; omega)] at ht
    rw [ht]; exact Ev.now _
  | succ d ih =>
    intro i y hi hy ht
    refine Ev.step (fun k => by simp only [laws_toEffectS.l0]; rw [if_pos (by omega), if_pos (by omega), w64 (by omega) (by omega), Int.toNat_natCast]) ?_
    have e : rd_T90 l i = l[i] := by simp [rd_T90, show i < l.length by omega]
    rw [e]
    simp only [laws_toEffect.f, laws_toNode.f, Option.bind_some]
    refine Ev.pos (by omega) (ih (i + 1) _ (by omega) (by simpa using hy) ?_)
    rw [List.take_add_one, List.take_add_one, List.take_set_of_le (by omega), ht]
    simp [hy, show i < l.length by omega, cvE, cvN]
theorem toTxn_ev (z : Int) (l : List S90) (hl : l.length ≤ 1048576) : Ev (fun k => laws_toTxn.f k z l) (z, l.map cvE) := by
  simp only [laws_toTxn.f, laws_toEffectS.f]
  exact Ev.bind (Ev.pos (by omega) (Ev.pos (by omega) (toEffectS_l l (by omega) l.length 0 _ (by omega) (by simp) (by simp)))) (Ev.now _)
theorem szEffect_e (x : S90) (a : Int) (h0 : x.f1.f0.size ≤ 9223372036854775807) (h1 : x.f1.f1.size ≤ 9223372036854775807) (ha : 0 ≤ a) (ha2 : a ≤ 281474976710656) : ∃ r, laws_szEffect.f x.f0 x.f1.f0 x.f1.f1 x.f1.f2 x.f1.f3 x.f1.f4 x.f1.f5 x.f1.f6 a = some r ∧ (r = -1 ∨ 0 ≤ r ∧ r + x.f1.f0.size + x.f1.f1.size = a) := by
  obtain ⟨r, e, h⟩ := szNode_e x.f1 a h0 h1 ha ha2
  simp only [laws_szEffect.f]
  rw [e, Option.bind_some]
  rcases h with rfl | ⟨h2, h3⟩
  · exact ⟨-1, if_pos (by omega), Or.inl rfl⟩
  · exact ⟨r, if_neg (by omega), Or.inr ⟨h2, h3⟩⟩
theorem szEffectS_l (l : List S90) (hl : l.length ≤ 9223372036854775807) (hb : ∀ x ∈ l, x.f1.f0.size ≤ 9223372036854775807 ∧ x.f1.f1.size ≤ 9223372036854775807) (d : Nat) : ∀ (i : Nat) (a : Int), i + d = l.length → 0 ≤ a → a ≤ 281474976710656 → ∃ r, Ev (fun k => laws_szEffectS.l0 k l a i) r ∧ (r = -1 ∨ 0 ≤ r ∧ r ≤ a ∧ ∀ x ∈ l.drop i, (x.f1.f0.size : Int) ≤ a ∧ (x.f1.f1.size : Int) ≤ a) := by
  induction d with
  | zero =>
    intro i a hi h0 h1
    exact ⟨a, Ev.step (fun k => by simp only [laws_szEffectS.l0]; exact if_neg (by omega)) (Ev.now _), Or.inr ⟨h0, by omega, by rw [List.drop_of_length_le (by omega)]; simp⟩⟩
  | succ d ih =>
    intro i a hi h0 h1
    have e : rd_T90 l i = l[i] := by simp [rd_T90, show i < l.length by omega]
    have hbi := hb _ (List.getElem_mem (show i < l.length by omega))
    obtain ⟨r, er, hr⟩ := szEffect_e l[i] a hbi.1 hbi.2 h0 h1
    have st : ∀ k, laws_szEffectS.l0 (k + 1) l a i = (if r < 0 then (some (-1)) else (laws_szEffectS.l0 k l r ((i + 1 : Nat) : Int))) := by
      intro k
      simp only [laws_szEffectS.l0]
      rw [if_pos (by omega), if_pos (by omega), e, er, Option.bind_some, w64 (by omega) (by omega)]; rfl
    rcases hr with rfl | ⟨h2, h3⟩
    · exact ⟨-1, Ev.step st (Ev.pos (by omega) (Ev.now _)), Or.inl rfl⟩
    · obtain ⟨r2, e2, h4⟩ := ih (i + 1) r (by omega) h2 (by omega)
      refine ⟨r2, Ev.step st (Ev.neg (by omega) e2), ?_⟩
      rcases h4 with h4 | ⟨h6, h7, h8⟩
      · exact Or.inl h4
      · refine Or.inr ⟨h6, by omega, ?_⟩
        rw [List.drop_eq_getElem_cons (by omega)]
        intro x hx
        rcases List.mem_cons.mp hx with rfl | hx
        · constructor <;> omega
        · have := h8 x hx; constructor <;> omega
theorem szTxn_ev (z : Int) (l : List S90) (a : Int) (hl : l.length ≤ 9223372036854775807) (hb : ∀ x ∈ l, x.f1.f0.size ≤ 9223372036854775807 ∧ x.f1.f1.size ≤ 9223372036854775807) (ha : 0 ≤ a) (ha2 : a ≤ 281474976710656) : ∃ r, Ev (fun k => laws_szTxn.f k z l a) r ∧ (r = -1 ∨ 0 ≤ r ∧ r + l.length ≤ a ∧ ∀ x ∈ l, (x.f1.f0.size : Int) ≤ a ∧ (x.f1.f1.size : Int) ≤ a) := by
  by_cases h : a - (l.length : Int) < 0
  · refine ⟨-1, ?_, Or.inl rfl⟩
    simp only [laws_szTxn.f, laws_szEffectS.f]
    rw [w64 (by omega) (by omega)]
    exact Ev.bind (Ev.pos h (Ev.now _)) (Ev.pos (by omega) (Ev.now _))
  · obtain ⟨r, e, h2⟩ := szEffectS_l l hl hb l.length 0 (a - (l.length : Int)) (by omega) (by omega) (by omega)
    refine ⟨r, ?_, ?_⟩
    rotate_left
    · rcases h2 with h2 | ⟨h3, h4, h5⟩
      · exact Or.inl h2
      · exact Or.inr ⟨h3, by omega, fun x hx => by have := h5 x (by simpa using hx); constructor <;> omega⟩
    simp only [laws_szTxn.f, laws_szEffectS.f]
    rw [w64 (by omega) (by omega)]
    refine Ev.bind (Ev.neg h e) ?_
    rcases h2 with rfl | ⟨h3, _⟩
    · exact Ev.pos (by omega) (Ev.now _)
    · exact Ev.neg (by omega) (Ev.now _)
theorem eqEffect_e (x : S66) : laws_eqEffect.f x.f0 x.f1.f0 x.f1.f1 x.f1.f2 x.f1.f3 x.f1.f4 x.f1.f5 x.f1.f6 x.f0 x.f1.f0 x.f1.f1 x.f1.f2 x.f1.f3 x.f1.f4 x.f1.f5 x.f1.f6 = some true := by
  simp only [laws_eqEffect.f]
  rw [if_neg (by simp), eqNode_e, Option.bind_some, if_pos rfl]
theorem eqEffectS_l (l : List S66) (hl : l.length ≤ 281474976710656) (d : Nat) : ∀ (i : Nat), i + d = l.length → Ev (fun k => laws_eqEffectS.l0 k l l i) true := by
  induction d with
  | zero => intro i hi; exact Ev.step (fun k => by simp only [laws_eqEffectS.l0]; exact if_neg (by omega)) (Ev.now _)
  | succ d ih =>
    intro i hi
    refine Ev.step (fun k => by simp only [laws_eqEffectS.l0]; rw [if_pos (by omega), if_pos (by omega), if_pos (by omega), w64 (by omega) (by omega), eqEffect_e, Option.bind_some]) ?_
    exact Ev.pos (by trivial) (ih (i + 1) (by omega))
theorem eqTxn_ev (z : Int) (l : List S66) (hl : l.length ≤ 281474976710656) : Ev (fun k => laws_eqTxn.f k z l z l) true := by
  simp only [laws_eqTxn.f, laws_eqEffectS.f]
  exact Ev.pos (by trivial) (Ev.bind (Ev.pos (by trivial) (eqEffectS_l l hl l.length 0 (by omega))) (Ev.pos (by trivial) (Ev.now _)))

theorem eqByteS_l (x : List Int) (hl : x.length ≤ 281474976710656) (d : Nat) : ∀ (i : Nat), i + d = x.length → ∀ k, d < k → laws_eqByteS.l0 k x x i = some true := by
  induction d with
  | zero =>
    intro i hi k hk
    obtain ⟨k, rfl⟩ : ∃ m, k = m + 1 := ⟨k - 1, by omega⟩
    simp only [laws_eqByteS.l0]
    rw [if_neg (by omega)]
  | succ d ih =>
    intro i hi k hk
    obtain ⟨k, rfl⟩ : ∃ m, k = m + 1 := ⟨k - 1, by omega⟩
    simp only [laws_eqByteS.l0]
    rw [if_pos (by omega), if_pos (by omega), if_pos (by omega), if_pos trivial, w64 (by omega) (by omega)]
    exact ih (i + 1) (by omega) k (by omega)
theorem eqByteS_ev (l : List Int) (hl : l.length ≤ 281474976710656) : Ev (fun k => laws_eqByteS.f k l l) true := by
  refine ⟨l.length + 1, fun k hk => ?_⟩
  simp only [laws_eqByteS.f]
  rw [if_pos trivial]
  exact eqByteS_l l hl l.length 0 (by omega) k (by omega)

def markB (a : Int) (l : List Int) : List Int := (List.range l.length).map fun i : Nat => (a + (i : Int)) % 256
theorem markByteS_l (a : Int) (ha : 0 ≤ a) (ha2 : a ≤ 4611686018427387904) (n : Nat) (hl : n ≤ 281474976710656) (d : Nat) : ∀ (i : Nat) (x : List Int), i + d = n → x.length = n → x.take i = (List.range i).map (fun i : Nat => (a + (i : Int)) % 256) → ∀ k, d < k → laws_markByteS.l0 k x (a + i) i = some (a + n, (List.range n).map fun i : Nat => (a + (i : Int)) % 256) := by
  induction d with
  | zero =>
    intro i x hi hx ht k hk
    obtain ⟨k, rfl⟩ : ∃ m, k = m + 1 := ⟨k - 1, by omega⟩
    simp only [laws_markByteS.l0]
    rw [if_neg (by omega)]
    rw [List.take_of_length_le (by omega)] at ht
    obtain rfl : i = n := by omega
    rw [ht]
  | succ d ih =>
    intro i x hi hx ht k hk
    obtain ⟨k, rfl⟩ : ∃ m, k = m + 1 := ⟨k - 1, by omega⟩
    simp only [laws_markByteS.l0]
    rw [if_pos (by omega), if_pos (by omega), w64 (by omega) (by omega), w64 (by omega) (by omega), Int.toNat_natCast]
    have e1 : a + (i : Int) + 1 = a + ((i + 1 : Nat) : Int) := by omega
    have e2 : (i : Int) + 1 = ((i + 1 : Nat) : Int) := by omega
    rw [e1, e2]
    refine ih (i + 1) _ (by omega) (by simpa using hx) ?_ k (by omega)
    rw [List.range_succ, List.map_append, ← ht, List.take_add_one]
    simp [List.take_set_of_le, hx, show i < n by omega]
theorem markByteS_ev (a : Int) (ha : 0 ≤ a) (ha2 : a ≤ 4611686018427387904) (l : List Int) (hl : l.length ≤ 281474976710656) : Ev (fun k => laws_markByteS.f k l a) (a + l.length, markB a l) := by
  refine ⟨l.length + 1, fun k hk => ?_⟩
  simp only [laws_markByteS.f]
  have := markByteS_l a ha ha2 l.length hl l.length 0 l (by omega) rfl (by simp) k (by omega)
  simpa [markB] using this
theorem heldByteS_l (a : Int) (ha : 0 ≤ a) (ha2 : a ≤ 4611686018427387904) (l : List Int) (hl : l.length ≤ 281474976710656) (d : Nat) : ∀ (i : Nat), i + d = l.length → ∀ k, d < k → laws_heldByteS.l0 k (markB a l) (a + i) i = some (a + l.length) := by
  have hml : (markB a l).length = l.length := by simp [markB]
  induction d with
  | zero =>
    intro i hi k hk
    obtain ⟨k, rfl⟩ : ∃ m, k = m + 1 := ⟨k - 1, by omega⟩
    simp only [laws_heldByteS.l0]
    rw [if_neg (by omega)]
    obtain rfl : i = l.length := by omega
    rfl
  | succ d ih =>
    intro i hi k hk
    obtain ⟨k, rfl⟩ : ∃ m, k = m + 1 := ⟨k - 1, by omega⟩
    simp only [laws_heldByteS.l0]
    have hrd : rd (markB a l) i = (a + (i : Int)) % 256 := by simp [rd, markB, show i < l.length by omega]
    rw [if_pos (by omega), if_pos (by omega), if_pos hrd, w64 (by omega) (by omega), w64 (by omega) (by omega)]
    have e1 : a + (i : Int) + 1 = a + ((i + 1 : Nat) : Int) := by omega
    have e2 : (i : Int) + 1 = ((i + 1 : Nat) : Int) := by omega
    rw [e1, e2]
    exact ih (i + 1) (by omega) k (by omega)
theorem heldByteS_ev (a : Int) (ha : 0 ≤ a) (ha2 : a ≤ 4611686018427387904) (l : List Int) (hl : l.length ≤ 281474976710656) : Ev (fun k => laws_heldByteS.f k (markB a l) a) (a + l.length) := by
  refine ⟨l.length + 1, fun k hk => ?_⟩
  simp only [laws_heldByteS.f]
  have := heldByteS_l a ha ha2 l hl l.length 0 (by omega) k (by omega)
  simpa using this


theorem Ex.step {α : Type} {g f : Nat → Option α} {Q : α → Prop} (hs : ∀ k, g (k + 1) = f k) (h : ∃ r, Q r ∧ Ev f r) : ∃ r, Q r ∧ Ev g r := by obtain ⟨r, q, e⟩ := h; exact ⟨r, q, Ev.step hs e⟩
theorem Ex.bind {α β : Type} {g : Nat → Option α} {f : Nat → α → Option β} {a : α} {Q : β → Prop} (h : Ev g a) (k : ∃ r, Q r ∧ Ev (fun n => f n a) r) : ∃ r, Q r ∧ Ev (fun n => (g n).bind (f n)) r := by obtain ⟨r, q, e⟩ := k; exact ⟨r, q, Ev.bind h e⟩
theorem Ex.pos {α : Type} {c : Prop} [Decidable c] {f g : Nat → Option α} {Q : α → Prop} (hc : c) (h : ∃ r, Q r ∧ Ev f r) : ∃ r, Q r ∧ Ev (fun n => if c then f n else g n) r := by obtain ⟨r, q, e⟩ := h; exact ⟨r, q, Ev.pos hc e⟩
theorem Ex.neg {α : Type} {c : Prop} [Decidable c] {f g : Nat → Option α} {Q : α → Prop} (hc : ¬c) (h : ∃ r, Q r ∧ Ev g r) : ∃ r, Q r ∧ Ev (fun n => if c then f n else g n) r := by obtain ⟨r, q, e⟩ := h; exact ⟨r, q, Ev.neg hc e⟩
theorem Ex.set {α β : Type} {x : List α} {j : Nat} {v : α} {f : Nat → List α → Option β} {Q : β → Prop} (h : ∀ y : List α, y.length = x.length → ∃ r, Q r ∧ Ev (fun n => f n y) r) : ∃ r, Q r ∧ Ev (fun n => (some (x.set j v)).bind (f n)) r := by obtain ⟨r, q, e⟩ := h (x.set j v) (by simp); exact ⟨r, q, Ev.bindS rfl e⟩
theorem Ex.now {α : Type} {Q : α → Prop} (r : α) (h : Q r) : ∃ r, Q r ∧ Ev (fun _ => some r) r := ⟨r, h, Ev.now r⟩
theorem nums_size1 (x : Int) : (strOfNums [x]).size = 1 := rfl
theorem markText_l (n : Nat) : ∀ (a : Nat) (x : ByteArray), a < 10 ^ n → n ≤ 1000 → a ≤ 4611686018427387904 → x.size + n ≤ 1000000 → ∃ r : ByteArray, True ∧ Ev (fun k => laws_markText.l0 k a x) r := by
  induction n with
  | zero =>
    intro a x ha _ _ hx
    obtain rfl : a = 0 := by simpa using ha
    exact Ex.step (fun k => by simp only [laws_markText.l0]; rw [if_neg (by omega), if_pos (by omega)]) ⟨_, trivial, Ev.now _⟩
  | succ n ih =>
    intro a x ha hn ha2 hx
    by_cases h0 : a = 0
    · subst h0
      exact Ex.step (fun k => by simp only [laws_markText.l0]; rw [if_neg (by omega), if_pos (by omega)]) ⟨_, trivial, Ev.now _⟩
    · refine Ex.step (fun k => by simp only [laws_markText.l0, Option.bind_some]; rw [if_pos (by omega), show Int.tdiv (a : Int) 10 = ((a / 10 : Nat) : Int) from rfl, w64 (x := ((a / 10 : Nat) : Int)) (by omega) (by omega)]) ?_
      refine Ex.pos (by rw [nums_size1]; omega) ?_
      refine ih (a / 10) _ (by rw [Nat.pow_succ] at ha; omega) (by omega) (by omega) ?_
      rw [ByteArray.size_append, nums_size1]; omega
theorem markText_ev (a : Int) (h0 : 0 ≤ a) (h1 : a ≤ 4611686018427387904) : ∃ r : ByteArray, True ∧ Ev (fun k => laws_markText.f k a) r := by
  simp only [laws_markText.f]
  by_cases h : a ≤ 0
  · exact Ex.pos h ⟨_, trivial, Ev.now _⟩
  · refine Ex.neg h ?_
    obtain ⟨n, rfl⟩ := Int.eq_ofNat_of_zero_le h0
    refine markText_l 19 n _ (by omega) (by omega) (by omega) ?_
    show 0 + 19 ≤ _
    omega
theorem markEffectS_l (n : Nat) (hn : n ≤ 281474976710656) (d : Nat) : ∀ (i : Nat) (x : List S66) (a : Int), i + d = n → x.length = n → 0 ≤ a → a + 8 * d ≤ 1000000000000000 → ∃ r : Int × List S66, r.1 = a + 8 * d ∧ Ev (fun k => laws_markEffectS.l0 k x a i) r := by
  induction d with
  | zero =>
    intro i x a hi hx h0 h1
    exact Ex.step (fun k => by simp only [laws_markEffectS.l0]; exact if_neg (by omega)) ⟨(a, x), by simp, Ev.now _⟩
  | succ d ih =>
    intro i x a hi hx h0 h1
    obtain ⟨t1, _, e1⟩ := markText_ev (a + 1) (by omega) (by omega)
    obtain ⟨t2, _, e2⟩ := markText_ev (a + 1 + 1) (by omega) (by omega)
    have g1 : (i : Int) < (x.length : Int) := by omega
    have g2 : 0 ≤ (i : Int) := by omega
    have g3 : i + 1 + d = n := by omega
    have g4 : 0 ≤ a + 1 + 1 + 1 + 1 + 1 + 1 + 1 + 1 := by omega
    have g5 : a + 1 + 1 + 1 + 1 + 1 + 1 + 1 + 1 + 8 * d ≤ 1000000000000000 := by omega
    have g6 : a + 1 + 1 + 1 + 1 + 1 + 1 + 1 + 1 + 8 * (d : Int) = a + 8 * ((d + 1 : Nat) : Int) := by omega
    obtain ⟨w1, w2, w3, w4, w5, w6, w7, w8, w9⟩ : wrap64 (a + 1) = a + 1 ∧ wrap64 (a + 1 + 1) = a + 1 + 1 ∧ wrap64 (a + 1 + 1 + 1) = a + 1 + 1 + 1 ∧ wrap64 (a + 1 + 1 + 1 + 1) = a + 1 + 1 + 1 + 1 ∧ wrap64 (a + 1 + 1 + 1 + 1 + 1) = a + 1 + 1 + 1 + 1 + 1 ∧ wrap64 (a + 1 + 1 + 1 + 1 + 1 + 1) = a + 1 + 1 + 1 + 1 + 1 + 1 ∧ wrap64 (a + 1 + 1 + 1 + 1 + 1 + 1 + 1) = a + 1 + 1 + 1 + 1 + 1 + 1 + 1 ∧ wrap64 (a + 1 + 1 + 1 + 1 + 1 + 1 + 1 + 1) = a + 1 + 1 + 1 + 1 + 1 + 1 + 1 + 1 ∧ wrap64 ((i : Int) + 1) = ((i + 1 : Nat) : Int) :=
      ⟨w64 (by omega) (by omega), w64 (by omega) (by omega), w64 (by omega) (by omega), w64 (by omega) (by omega), w64 (by omega) (by omega), w64 (by omega) (by omega), w64 (by omega) (by omega), w64 (by omega) (by omega), w64 (by omega) (by omega)⟩
    refine Ex.step (fun k => by rw [laws_markEffectS.l0, if_pos g1]) ?_
    rw [w1, w2, w3, w4, w5, w6, w7, w8, w9]
    clear w1 w2 w3 w4 w5 w6 w7 w8 w9
    refine Ex.pos g2 ?_
    refine Ex.set fun y0 l0 => ?_
    refine Ex.bind e1 ?_
    refine Ex.set fun y1 l1 => ?_
    refine Ex.bind e2 ?_
    refine Ex.set fun y2 l2 => ?_
    refine Ex.set fun y3 l3 => ?_
    refine Ex.set fun y4 l4 => ?_
    refine Ex.set fun y5 l5 => ?_
    refine Ex.set fun y6 l6 => ?_
    obtain ⟨r, hr, er⟩ := ih (i + 1) (y6.set (i : Int).toNat ⟨(rd_T66 y6 i).f0, ⟨(rd_T66 y6 i).f1.f0, (rd_T66 y6 i).f1.f1, (rd_T66 y6 i).f1.f2, (rd_T66 y6 i).f1.f3, (rd_T66 y6 i).f1.f4, (rd_T66 y6 i).f1.f5, a + 1 + 1 + 1 + 1 + 1 + 1 + 1⟩⟩) (a + 1 + 1 + 1 + 1 + 1 + 1 + 1 + 1) g3 (by rw [List.length_set, l6, l5, l4, l3, l2, l1, l0, hx]) g4 g5
    exact ⟨r, hr.trans g6, er⟩
theorem markTxn_ev (z : Int) (x : List S66) (hx : x.length ≤ 1048576) : ∃ r : Int × List S66, r.1 = 1 + 8 * (x.length : Int) ∧ Ev (fun k => laws_markTxn.f k z x 1) r := by
  obtain ⟨r, hr, e⟩ := markEffectS_l x.length (by omega) x.length 0 x 1 (by omega) rfl (by omega) (by omega)
  simp only [laws_markTxn.f, laws_markEffectS.f]
  exact Ex.bind e ⟨(r.1, r.2), hr, Ev.now _⟩
theorem FnExactEncodeTxn : laws_FnExactEncodeTxn.Pure := by
  intro z l _ hl
  simp only [maxLen] at hl
  obtain ⟨r, e, h⟩ := szTxn_ev z l 1048576 (by have := hl.1; omega) (fun x hx => by have := (hl.2 x hx).2; constructor <;> omega) (by omega) (by omega)
  apply Ev.rounds
  simp only [laws_FnExactEncodeTxn.f]
  refine Ev.bind e ?_
  by_cases hr : r < 0
  · exact Ev.pos hr (Ev.now _)
  refine Ev.neg hr ?_
  obtain ⟨h0, h1, h2⟩ : 0 ≤ r ∧ r + l.length ≤ 1048576 ∧ ∀ x ∈ l, (x.f1.f0.size : Int) ≤ 1048576 ∧ (x.f1.f1.size : Int) ≤ 1048576 := by
    rcases h with h | h
    · omega
    · exact h
  have hm : ∀ x ∈ l.map cvE, x.f1.f0.size ≤ 1048576 := by
    intro x hx; obtain ⟨y, hy, rfl⟩ := List.mem_map.mp hx; have := (h2 y hy).1; show y.f1.f0.size ≤ _; omega
  have t := toTxn_ev z l (by omega)
  have hml : (l.map cvE).length ≤ 1048576 := by simp; omega
  have es := specEncTxn_ev z _ hml hm
  have ei := implEncTxn_ev z _ hml hm
  have hlen := encTxn_len z (l.map cvE)
  generalize encTxn z (l.map cvE) = E at es ei hlen
  have eb := eqByteS_ev E (by omega)
  obtain ⟨m, hm1, em⟩ := markTxn_ev z (l.map cvE) hml
  refine Ev.bind t (Ev.bind es (Ev.bind t (Ev.bind ei (Ev.bind eb (Ev.pos (by trivial) (Ev.bind t (Ev.bind (eqTxn_ev z (l.map cvE) (by omega)) (Ev.pos (by trivial) (Ev.bind em ?_)))))))))
  refine Ev.neg (by omega) (Ev.bind eb ?_)
  refine Ev.step (fun k => by simp only [laws_FnExactEncodeTxn.j0]; exact if_neg (by simp)) ?_
  refine Ev.bind (markByteS_ev 1 (by omega) (by omega) E (by omega)) (Ev.bind (heldByteS_ev 1 (by omega) (by omega) E (by omega)) ?_)
  refine Ev.neg (by omega) (Ev.pos rfl ?_)
  exact Ev.bind t (Ev.bind ei (Ev.bind eb (Ev.pos (by trivial) (Ev.now _))))

end Go.Proofs.YtlpjpmfhkmddjaaDoor.Pure
