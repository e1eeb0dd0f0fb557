/- What is proved: the law FnExactParseLine returns true: at every text the program's ParseLine answers as the reference's. Conditions: none but the listed variables' handing-in. -/
import Derived.Test.YtfiojiokmkiflaaDoorGFnExactParseLinex6
import Derived.Lib.SplitLaws
import Derived.Lib.ParseIntB
namespace Go.Proofs.YtfiojiokmkiflaaDoor.Pure
open Go.RowKit Go.Proofs.YtfiojiokmkiflaaDoor.GFnExactParseLine Go.Proofs.YtfiojiokmkiflaaDoorW.PrintWords Go.Proofs.YtfiojiokmkiflaaDoorW.PrintLast Go.Proofs.YtfiojiokmkiflaaDoorW.PrintMore
set_option linter.unusedVariables false
set_option linter.unusedSimpArgs false

theorem w64 {x : Int} (h0 : -9223372036854775808 ≤ x) (h1 : x < 9223372036854775808) : wrap64 x = x := by unfold wrap64; omega
theorem u8_wf {x : Int} (h : (Lit.int .u8 x).wf = true) : 0 ≤ x ∧ x ≤ 255 := by
  simp [Lit.wf, IntKind.min, IntKind.max, IntKind.signed, IntKind.bits] at h
  omega
theorem Ev.pos {α : Type} {c : Prop} [Decidable c] {f g : Nat → Option α} {r : α} (hc : c) (h : Ev f r) : Ev (fun n => if c then f n else g n) r := Ev.congr (fun _ => if_pos hc) h
theorem Ev.neg {α : Type} {c : Prop} [Decidable c] {f g : Nat → Option α} {r : α} (hc : ¬c) (h : Ev g r) : Ev (fun n => if c then f n else g n) r := Ev.congr (fun _ => if_neg hc) h
theorem Ev.ofE {α : Type} {f : Option α} {r : α} (h : f = some r) : Ev (fun _ => f) r := ⟨0, fun _ _ => h⟩
theorem Ev.bindS {α β : Type} {g : Option α} {f : Nat → α → Option β} {a : α} {r : β} (h : g = some a) (k : Ev (fun n => f n a) r) : Ev (fun n => g.bind (f n)) r := Ev.congr (fun _ => by rw [h]; rfl) k
def chd (b : UInt8) : List (List UInt8) → List (List UInt8)
  | [] => [[b]]
  | h :: t => (b :: h) :: t
def cutL : List UInt8 → List (List UInt8)
  | [] => [[]]
  | b :: l => if b = 32 then [] :: cutL l else chd b (cutL l)
def cpre (p : List UInt8) : List (List UInt8) → List (List UInt8)
  | [] => [p]
  | h :: t => (p ++ h) :: t
theorem cut_ne (l : List UInt8) : ∃ h t, cutL l = h :: t := by
  cases l with
  | nil => exact ⟨[], [], rfl⟩
  | cons b l =>
    unfold cutL
    split
    · exact ⟨_, _, rfl⟩
    · cases cutL l <;> exact ⟨_, _, rfl⟩
theorem cut_len (l : List UInt8) : (cutL l).length ≤ l.length + 1 := by
  induction l with
  | nil => simp [cutL]
  | cons b l ih =>
    unfold cutL
    split
    · simp; omega
    · obtain ⟨h, t, e⟩ := cut_ne l
      rw [e] at ih ⊢
      simp [chd] at ih ⊢; omega
theorem cut_size (l : List UInt8) : ∀ x ∈ cutL l, x.length ≤ l.length := by
  induction l with
  | nil => simp [cutL]
  | cons b l ih =>
    unfold cutL
    split
    · intro x hx
      rcases List.mem_cons.1 hx with rfl | hx
      · simp
      · have := ih x hx; simp; omega
    · obtain ⟨h, t, e⟩ := cut_ne l
      rw [e] at ih ⊢
      intro x hx
      rcases List.mem_cons.1 hx with rfl | hx
      · have := ih h (by simp); simp; omega
      · have := ih x (by simp [hx]); simp; omega
theorem splitK_cut (l : List UInt8) : Go.Lib.splitK [32] 0 (Go.Lib.count l [32]) l = cutL l := by
  induction l with
  | nil => rw [Go.Lib.count_miss (by rfl)]; rfl
  | cons b l ih =>
    unfold cutL
    by_cases hb : b = 32
    · subst hb
      rw [if_pos rfl, Go.Lib.count_cons_eq, Nat.add_comm 1]
      have hi : Go.Lib.index (32 :: l) [32] = 0 := by rw [Go.Lib.index]; simp [List.isPrefixOf]
      unfold Go.Lib.splitK
      rw [hi]
      simp [ih]
    · rw [if_neg hb, Go.Lib.count_cons_ne b 32 l hb]
      have hi : Go.Lib.index (b :: l) [32] = if Go.Lib.index l [32] == -1 then -1 else Go.Lib.index l [32] + 1 := by
        rw [Go.Lib.index]
        have : ([32] : List UInt8).isPrefixOf (b :: l) = false := by simp [List.isPrefixOf, Ne.symm hb]
        rw [this]; simp
      rw [← ih]
      cases hc : Go.Lib.count l [32] with
      | zero => rfl
      | succ k =>
        have hm : ¬ Go.Lib.index l [32] = -1 := fun e => by rw [Go.Lib.count_miss e] at hc; omega
        have hge := Go.Lib.index_ge l [32]
        obtain ⟨j, hj⟩ : ∃ j : Nat, Go.Lib.index l [32] = j := ⟨(Go.Lib.index l [32]).toNat, by omega⟩
        unfold Go.Lib.splitK
        rw [hi, hj]
        have h1 : ¬ (((j : Nat) : Int) == -1) = true := by simp
        rw [if_neg h1, if_neg h1, if_neg (by simp; omega)]
        simp only [chd]
        have h2 : ((j : Int) + 1).toNat = j + 1 := by omega
        rw [h2, Int.toNat_natCast]
        simp
theorem data_inj {a b : ByteArray} (h : a.data.toList = b.data.toList) : a = b := by
  obtain ⟨⟨l⟩⟩ := a
  obtain ⟨⟨m⟩⟩ := b
  simp at h
  rw [h]
theorem map_inj {xs ys : List ByteArray} (h : xs.map (fun s => s.data.toList) = ys.map (fun s => s.data.toList)) : xs = ys := by
  induction xs generalizing ys with
  | nil => cases ys with
    | nil => rfl
    | cons _ _ => simp at h
  | cons x xs ih => cases ys with
    | nil => simp at h
    | cons y ys =>
      simp only [List.map_cons, List.cons.injEq] at h
      rw [data_inj h.1, ih h.2]
/-- The fields of a text between spaces. -/
def fieldsB (s : ByteArray) : List ByteArray := (cutL s.data.toList).map fun l => ⟨l.toArray⟩
theorem fieldsB_data (s : ByteArray) : (fieldsB s).map (fun s => s.data.toList) = cutL s.data.toList := by
  unfold fieldsB; rw [List.map_map]; simp [Function.comp_def]
theorem fieldsB_len (s : ByteArray) : (fieldsB s).length ≤ s.size + 1 := by
  have := cut_len s.data.toList
  rw [← Go.Lib.size_eq] at this
  simpa [fieldsB] using this
theorem fieldsB_ne (s : ByteArray) : 1 ≤ (fieldsB s).length := by
  obtain ⟨h, t, e⟩ := cut_ne s.data.toList
  simp [fieldsB, e]
theorem fieldsB_size (s : ByteArray) : ∀ x ∈ fieldsB s, x.size ≤ s.size := by
  intro x hx
  obtain ⟨l, hl, rfl⟩ := List.mem_map.1 hx
  rw [Go.Lib.size_eq s]
  exact cut_size _ l hl
theorem implCut (s : ByteArray) (h : s.size ≤ 1000000) : strings_Split.f s (⟨#[32]⟩ : ByteArray) = some (fieldsB s) := by
  unfold strings_Split.f
  have hc : Go.Lib.countB s ⟨#[32]⟩ ≤ s.size := by
    show Go.Lib.count s.data.toList [32] ≤ _
    rw [Go.Lib.size_eq, Go.Lib.count_one]; exact List.count_le_length
  rw [if_pos ⟨by omega, by decide, by omega⟩]
  congr 1
  apply map_inj
  rw [fieldsB_data, Go.Lib.splitB_data]
  exact splitK_cut _
theorem bt_list (s : ByteArray) (i : Nat) (h : i < s.size) : ∃ b : UInt8, s.data.toList[i]? = some b ∧ bt s i = (b.toNat : Int) := by
  have hl : i < s.data.toList.length := by rw [← Go.Lib.size_eq]; exact h
  refine ⟨s.data.toList[i], List.getElem?_eq_getElem hl, ?_⟩
  unfold bt
  rw [dif_pos (by simpa using h)]
  congr 2
theorem drop_cons (s : ByteArray) (i : Nat) (b : UInt8) (h : s.data.toList[i]? = some b) : s.data.toList.drop i = b :: s.data.toList.drop (i + 1) := by
  obtain ⟨hl, e⟩ := List.getElem?_eq_some_iff.1 h
  rw [List.drop_eq_getElem_cons hl, e]
theorem str_sub (l : List Int) (a b : Nat) : (strOfNums ((l.take b).drop a)).data.toList = ((strOfNums l).data.toList.take b).drop a := by
  rw [strOfNums_data, strOfNums_data, ← List.map_take, ← List.map_drop]
theorem specCut_l (l : List Int) (hs : l.length ≤ 1048576) (hb : ∀ x ∈ l, 0 ≤ x ∧ x ≤ 255) (d : Nat) : ∀ (f i : Nat), f ≤ i → i + d = l.length → ∃ q : List ByteArray, q.map (fun s => s.data.toList) = cpre (((strOfNums l).data.toList.drop f).take (i - f)) (cutL ((strOfNums l).data.toList.drop i)) ∧ ∀ acc : List ByteArray, acc.length ≤ i + 1 → Ev (fun k => spec_l6Cut.l0 k l 32 acc f i) (acc ++ q) := by
  have hn : (strOfNums l).data.toList.length = l.length := by rw [strOfNums_data, List.length_map]
  induction d with
  | zero =>
    intro f i hf hi
    have hi' : i = l.length := by omega
    subst hi'
    refine ⟨[strOfNums (l.drop f)], ?_, fun acc ha => ?_⟩
    · rw [List.drop_of_length_le (l := (strOfNums l).data.toList) (i := l.length) (by omega)]
      show [(strOfNums (l.drop f)).data.toList] = [_ ++ []]
      rw [List.append_nil, List.take_of_length_le (by rw [List.length_drop]; omega), strOfNums_data, strOfNums_data, ← List.map_drop]
    · exact Ev.step (fun k => by simp only [spec_l6Cut.l0]; rw [if_neg (by omega), if_pos (by omega), if_pos (by omega), if_pos (by omega), Int.toNat_natCast]) (Ev.now _)
  | succ d ih =>
    intro f i hf hi
    have hil : i < l.length := by omega
    obtain ⟨x0, x1⟩ := hb _ (List.getElem_mem hil)
    have er : rd l (i : Int) = l[i] := by unfold rd; simp [hil]
    have hd : (strOfNums l).data.toList.drop i = UInt8.ofNat l[i].toNat :: (strOfNums l).data.toList.drop (i + 1) := by
      rw [List.drop_eq_getElem_cons (by omega)]
      congr 1
      simp [strOfNums]
    have hbn : (UInt8.ofNat l[i].toNat).toNat = l[i].toNat := by rw [UInt8.toNat_ofNat']; omega
    by_cases h32 : l[i] = 32
    · obtain ⟨q, hq, he⟩ := ih (i + 1) (i + 1) (Nat.le_refl _) (by omega)
      refine ⟨strOfNums ((l.take i).drop f) :: q, ?_, fun acc ha => ?_⟩
      · rw [List.map_cons, hq, hd, h32, str_sub]
        obtain ⟨x, t, e⟩ := cut_ne ((strOfNums l).data.toList.drop (i + 1))
        have e32 : UInt8.ofNat (32 : Int).toNat = 32 := rfl
        rw [e32]
        simp [cutL, cpre, e, List.drop_take]
      · refine Ev.step (fun k => by simp only [spec_l6Cut.l0]; rw [if_pos (by omega), if_pos (by omega), er, if_pos h32, if_pos (by omega), if_pos (by omega), if_pos (by omega), if_pos (by omega), w64 (by omega) (by omega), Int.toNat_natCast, Int.toNat_natCast]) ?_
        have := he (acc ++ [strOfNums ((l.take i).drop f)]) (by simp; omega)
        rw [List.append_assoc] at this
        exact this
    · obtain ⟨q, hq, he⟩ := ih f (i + 1) (by omega) (by omega)
      refine ⟨q, ?_, fun acc ha => ?_⟩
      · rw [hq, hd]
        have hne : ¬ UInt8.ofNat l[i].toNat = 32 := fun e => h32 (by have := congrArg UInt8.toNat e; rw [hbn] at this; have : l[i].toNat = 32 := this; omega)
        have h1 : cutL (UInt8.ofNat l[i].toNat :: (strOfNums l).data.toList.drop (i + 1)) = chd (UInt8.ofNat l[i].toNat) (cutL ((strOfNums l).data.toList.drop (i + 1))) := by rw [cutL, if_neg hne]
        obtain ⟨x, t, e⟩ := cut_ne ((strOfNums l).data.toList.drop (i + 1))
        rw [h1, e]
        simp only [chd, cpre]
        congr 1
        rw [show i + 1 - f = (i - f) + 1 by omega, List.take_add_one, List.append_assoc]
        congr 1
        rw [List.getElem?_drop, show f + (i - f) = i by omega, strOfNums_data, List.getElem?_map, List.getElem?_eq_getElem hil]
        rfl
      · refine Ev.step (fun k => by simp only [spec_l6Cut.l0]; rw [if_pos (by omega), if_pos (by omega), er, if_neg h32, w64 (by omega) (by omega)]) ?_
        exact he acc (by omega)
theorem specCut_ev (l : List Int) (hs : l.length ≤ 1048576) (hb : ∀ x ∈ l, 0 ≤ x ∧ x ≤ 255) : Ev (fun k => spec_l6Cut.f k l 32) (fieldsB (strOfNums l)) := by
  obtain ⟨q, hq, he⟩ := specCut_l l hs hb l.length 0 0 (Nat.le_refl _) (by omega)
  have e : q = fieldsB (strOfNums l) := by
    apply map_inj
    rw [fieldsB_data, hq]
    obtain ⟨x, t, e⟩ := cut_ne (strOfNums l).data.toList
    simp only [List.drop_zero, Nat.sub_zero, List.take_zero]
    rw [e]
    simp [cpre]
  rw [← e]
  simp only [spec_l6Cut.f]
  exact he [] (by simp)
def vis (b : UInt8) : Bool := decide (33 ≤ b.toNat) && decide (b.toNat ≤ 126)
def okF (s : ByteArray) : Bool := s.data.toList.all vis && decide (s.size ≠ 0)
theorem specVis_l (F : List ByteArray) (i : Nat) (hi : i < F.length) (hF : F.length ≤ 1048576) (hs : F[i].size ≤ 1048576) (R : List ByteArray) (h : Ev (fun k => spec_l6Fields.l0 k F ((i + 1 : Nat) : Int)) R) (d : Nat) : ∀ j : Nat, j + d = F[i].size → Ev (fun k => spec_l6Fields.l1 k F i j) (if (F[i].data.toList.drop j).all vis then R else []) := by
  have er : rdOf ByteArray.empty F (i : Int) = F[i] := by simp [rdOf, hi]
  induction d with
  | zero =>
    intro j hj
    rw [List.drop_of_length_le (by rw [← Go.Lib.size_eq]; omega)]
    refine Ev.step (fun k => by simp only [spec_l6Fields.l1]; rw [if_pos (by omega), if_pos (by omega), er, if_neg (by omega), w64 (by omega) (by omega)]) ?_
    exact h
  | succ d ih =>
    intro j hj
    obtain ⟨b, hb, eb⟩ := bt_list F[i] j (by omega)
    have hlt := b.toNat_lt
    rw [drop_cons _ j b hb, List.all_cons]
    refine Ev.step (fun k => by simp only [spec_l6Fields.l1]; rw [if_pos (by omega), if_pos (by omega), er, if_pos (by omega), if_pos (by omega), eb, w64 (x := (j : Int) + 1) (by omega) (by omega)]) ?_
    by_cases h1 : (b.toNat : Int) < 33
    · rw [show vis b = false by simp [vis]; omega]
      exact Ev.pos h1 (Ev.now _)
    · refine Ev.neg h1 ?_
      by_cases h2 : (b.toNat : Int) > 126
      · rw [show vis b = false by simp [vis]; omega]
        exact Ev.pos h2 (Ev.now _)
      · rw [show vis b = true by simp [vis]; omega, Bool.true_and]
        exact Ev.neg h2 (ih (j + 1) (by omega))
theorem specFields_l (F : List ByteArray) (hF : F.length ≤ 1048576) (hs : ∀ x ∈ F, x.size ≤ 1048576) (d : Nat) : ∀ i : Nat, i + d = F.length → Ev (fun k => spec_l6Fields.l0 k F i) (if (F.drop i).all okF then F else []) := by
  induction d with
  | zero =>
    intro i hi
    rw [List.drop_of_length_le (by omega)]
    exact Ev.step (fun k => by simp only [spec_l6Fields.l0]; exact if_neg (by omega)) (Ev.now _)
  | succ d ih =>
    intro i hi
    have hil : i < F.length := by omega
    have er : rdOf ByteArray.empty F (i : Int) = F[i] := by simp [rdOf, hil]
    rw [List.drop_eq_getElem_cons hil, List.all_cons]
    refine Ev.step (fun k => by simp only [spec_l6Fields.l0]; rw [if_pos (by omega), if_pos (by omega), er]) ?_
    by_cases h0 : (F[i].size : Int) = 0
    · rw [show okF F[i] = false by have hz : decide (F[i].size ≠ 0) = false := decide_eq_false (by omega)
                                   simp only [okF, hz, Bool.and_false]]
      exact Ev.pos h0 (Ev.now _)
    · refine Ev.neg h0 ?_
      have := specVis_l F i hil hF (hs _ (List.getElem_mem hil)) _ (ih (i + 1) (by omega)) F[i].size 0 (by omega)
      rw [List.drop_zero] at this
      refine Ev.congr (fun k => rfl) ?_
      have e : (if (okF F[i] && (F.drop (i + 1)).all okF) = true then F else []) = (if F[i].data.toList.all vis = true then (if (F.drop (i + 1)).all okF = true then F else []) else []) := by
        have hz : decide (F[i].size ≠ 0) = true := decide_eq_true (by omega)
        simp only [okF, hz, Bool.and_true, Bool.and_eq_true]
        by_cases a : F[i].data.toList.all vis = true
        · simp [a]
        · simp [a]
      rw [e]
      exact this
theorem specFields_ev (l : List Int) (hl : l.length ≤ 100000) (hb : ∀ x ∈ l, 0 ≤ x ∧ x ≤ 255) : Ev (fun k => spec_l6Fields.f k l) (if (fieldsB (strOfNums l)).all okF then fieldsB (strOfNums l) else []) := by
  simp only [spec_l6Fields.f]
  have hsz := strOfNums_size l
  have h1 := fieldsB_len (strOfNums l)
  refine Ev.bind (specCut_ev l (by omega) hb) ?_
  have := specFields_l (fieldsB (strOfNums l)) (by omega) (fun x hx => by have := fieldsB_size _ x hx; omega) (fieldsB (strOfNums l)).length 0 (by omega)
  rw [List.drop_zero] at this
  exact this
theorem Ex.step {α : Type} {g f : Nat → Option α} {Q : α → Prop} (hs : ∀ k, g (k + 1) = f k) (h : ∃ r, Q r ∧ Ev f r) : ∃ r, Q r ∧ Ev g r := by obtain ⟨r, q, e⟩ := h; exact ⟨r, q, Ev.step hs e⟩
theorem Ex.bind {α β : Type} {g : Nat → Option α} {f : Nat → α → Option β} {a : α} {Q : β → Prop} (h : Ev g a) (k : ∃ r, Q r ∧ Ev (fun n => f n a) r) : ∃ r, Q r ∧ Ev (fun n => (g n).bind (f n)) r := by obtain ⟨r, q, e⟩ := k; exact ⟨r, q, Ev.bind h e⟩
theorem Ex.pos {α : Type} {c : Prop} [Decidable c] {f g : Nat → Option α} {Q : α → Prop} (hc : c) (h : ∃ r, Q r ∧ Ev f r) : ∃ r, Q r ∧ Ev (fun n => if c then f n else g n) r := by obtain ⟨r, q, e⟩ := h; exact ⟨r, q, Ev.pos hc e⟩
theorem Ex.neg {α : Type} {c : Prop} [Decidable c] {f g : Nat → Option α} {Q : α → Prop} (hc : ¬c) (h : ∃ r, Q r ∧ Ev g r) : ∃ r, Q r ∧ Ev (fun n => if c then f n else g n) r := by obtain ⟨r, q, e⟩ := h; exact ⟨r, q, Ev.neg hc e⟩
theorem Ex.set {α β : Type} {x : List α} {j : Nat} {v : α} {f : Nat → List α → Option β} {Q : β → Prop} (h : ∀ y : List α, y.length = x.length → ∃ r, Q r ∧ Ev (fun n => f n y) r) : ∃ r, Q r ∧ Ev (fun n => (some (x.set j v)).bind (f n)) r := by obtain ⟨r, q, e⟩ := h (x.set j v) (by simp); exact ⟨r, q, Ev.bindS rfl e⟩
theorem Ex.now {α : Type} {Q : α → Prop} (r : α) (h : Q r) : ∃ r, Q r ∧ Ev (fun _ => some r) r := ⟨r, h, Ev.now r⟩
def dgt (b : UInt8) : Bool := decide (48 ≤ b.toNat) && decide (b.toNat ≤ 57)
def valN (acc : Nat) : List UInt8 → Nat
  | [] => acc
  | b :: l => valN (acc * 10 + (b.toNat - 48)) l
theorem valN_lt (l : List UInt8) : ∀ acc : Nat, l.all dgt = true → valN acc l + 1 ≤ (acc + 1) * 10 ^ l.length := by
  induction l with
  | nil => intro acc _; rw [List.length_nil, Nat.pow_zero, Nat.mul_one]; exact Nat.le_refl _
  | cons b l ih =>
    intro acc h
    simp only [List.all_cons, Bool.and_eq_true, dgt, decide_eq_true_eq] at h
    have := ih (acc * 10 + (b.toNat - 48)) (by simpa only [dgt, Bool.and_eq_true, decide_eq_true_eq] using h.2)
    have h3 : acc * 10 + (b.toNat - 48) + 1 ≤ (acc + 1) * 10 := by omega
    rw [List.length_cons, Nat.pow_succ, Nat.mul_comm (10 ^ l.length) 10, ← Nat.mul_assoc]
    have h4 := Nat.mul_le_mul_right (10 ^ l.length) h3
    rw [show valN acc (b :: l) = valN (acc * 10 + (b.toNat - 48)) l from rfl]
    generalize 10 ^ l.length = P at this h4 ⊢
    generalize valN (acc * 10 + (b.toNat - 48)) l = V at this ⊢
    exact Nat.le_trans this h4
theorem parse_one (M acc : Nat) (c : UInt8) (r : List UInt8) (h : 48 ≤ c.toNat ∧ c.toNat ≤ 57) (h1 : acc < 1844674407370955162) (h2 : acc * 10 + (c.toNat - 48) ≤ M) : Go.Lib.parseUintM M acc (c :: r) = Go.Lib.parseUintM M (acc * 10 + (c.toNat - 48)) r := by
  rw [Go.Lib.parseUintM, if_pos h, if_neg (Nat.not_le.mpr h1), if_neg (Nat.not_lt.mpr h2)]
theorem parse_all (M : Nat) (hM : 1000000000 ≤ M) (l : List UInt8) : ∀ acc : Nat, l.all dgt = true → (acc + 1) * 10 ^ l.length ≤ 1000000000 → Go.Lib.parseUintM M acc l = .ok (valN acc l) := by
  induction l with
  | nil => intro acc _ _; rfl
  | cons b l ih =>
    intro acc h hb
    simp only [List.all_cons, Bool.and_eq_true, dgt, decide_eq_true_eq] at h
    rw [List.length_cons, Nat.pow_succ, Nat.mul_comm (10 ^ l.length) 10, ← Nat.mul_assoc] at hb
    have h1 : (acc + 1) * 10 ≤ 1000000000 := Nat.le_trans (Nat.le_mul_of_pos_right _ (Nat.pow_pos (by omega))) hb
    rw [parse_one M acc b l h.1 (by omega) (by omega)]
    show _ = Go.Lib.NumEnd.ok (valN (acc * 10 + (b.toNat - 48)) l)
    exact ih _ (by simpa only [dgt, Bool.and_eq_true, decide_eq_true_eq] using h.2) (Nat.le_trans (Nat.mul_le_mul_right _ (by omega)) hb)
/-- A row of one to nine digits without a zero ahead. -/
def digO (s : ByteArray) : Option Int := if s.size = 0 ∨ s.size > 9 ∨ (bt s 0 = 48 ∧ s.size > 1) then none else if s.data.toList.all dgt = true then some (valN 0 s.data.toList) else none
def numO (s : ByteArray) : Option Int := if s.size > 1 ∧ bt s 0 = 45 then (if bt s 1 = 48 ∨ bt s 1 = 45 then none else (digO (s.extract 1 s.size)).map (fun v => -v)) else digO s
def OkIs (o : Option Int) (r : Int × Bool) : Prop := (if r.2 = true then some r.1 else none) = o
theorem pow9 {n : Nat} (h : n ≤ 9) : 10 ^ n ≤ 1000000000 := Nat.pow_le_pow_right (n := 10) (by omega) h
theorem digO_lt {s : ByteArray} {v : Int} (h : digO s = some v) : 0 ≤ v ∧ v < 1000000000 := by
  unfold digO at h
  split at h
  · cases h
  · rename_i hn
    split at h
    · rename_i ha
      obtain rfl := Option.some.inj h
      have h1 := valN_lt _ 0 ha
      rw [← Go.Lib.size_eq] at h1
      have h2 := pow9 (n := s.size) (by omega)
      omega
    · cases h
theorem specDig_l (s : ByteArray) (hs : s.size ≤ 9) (d : Nat) : ∀ (j acc : Nat), j + d = s.size → (acc + 1) * 10 ^ d ≤ 1000000000 → Ev (fun k => spec_l6Number.l0 k s acc j) (if (s.data.toList.drop j).all dgt = true then ((valN acc (s.data.toList.drop j) : Int), true) else (0, false)) := by
  induction d with
  | zero =>
    intro j acc hj hb
    rw [List.drop_of_length_le (by rw [← Go.Lib.size_eq]; omega)]
    exact Ev.step (fun k => by simp only [spec_l6Number.l0]; exact if_neg (by omega)) (Ev.now _)
  | succ d ih =>
    intro j acc hj hb
    obtain ⟨b, hb1, eb⟩ := bt_list s j (by omega)
    have hlt := b.toNat_lt
    rw [Nat.pow_succ, Nat.mul_comm (10 ^ d) 10, ← Nat.mul_assoc] at hb
    have h1 : (acc + 1) * 10 ≤ 1000000000 := Nat.le_trans (Nat.le_mul_of_pos_right _ (Nat.pow_pos (by omega))) hb
    rw [drop_cons _ j b hb1, List.all_cons]
    refine Ev.step (fun k => by simp only [spec_l6Number.l0]; rw [if_pos (by omega), if_pos (by omega), eb]) ?_
    by_cases c1 : (b.toNat : Int) < 48
    · rw [show dgt b = false by simp [dgt]; omega]
      exact Ev.pos c1 (Ev.now _)
    · refine Ev.neg c1 ?_
      by_cases c2 : (b.toNat : Int) > 57
      · rw [show dgt b = false by simp [dgt]; omega]
        exact Ev.pos c2 (Ev.now _)
      · rw [show dgt b = true by simp [dgt]; omega, Bool.true_and]
        refine Ev.neg c2 ?_
        have := ih (j + 1) (acc * 10 + (b.toNat - 48)) (by omega) (Nat.le_trans (Nat.mul_le_mul_right _ (by omega)) hb)
        refine Ev.congr (fun k => ?_) this
        rw [w64 (x := (acc : Int) * 10) (by omega) (by omega), w64 (x := (acc : Int) * 10 + _) (by omega) (by omega), w64 (by omega) (by omega)]
        congr 1
        omega
theorem specPos_ev (s : ByteArray) (hs : s.size ≤ 1048576) (hn : ¬(s.size > 1 ∧ bt s 0 = 45)) : ∃ r, OkIs (digO s) r ∧ Ev (fun k => spec_l6Number.f k s) r := by
  have h1 : ∀ k, spec_l6Number.f (k + 1) s = spec_l6Number.j0 k s false := by
    intro k
    simp only [spec_l6Number.f]
    by_cases h : (s.size : Int) > 1
    · rw [if_pos h, if_pos (by omega), show (bt s 0 == 45) = false from beq_eq_false_iff_ne.mpr (fun e => hn ⟨by omega, e⟩)]
    · rw [if_neg h]
  refine Ex.step h1 ?_
  have bad : digO s = none → ∃ r, OkIs (digO s) r ∧ Ev (fun k => spec_l6Number.j1 k s true) r := fun h => ⟨(0, false), h.symm, Ev.step (fun k => by simp only [spec_l6Number.j1]; exact if_pos trivial) (Ev.now _)⟩
  by_cases c0 : s.size = 0
  · exact Ex.step (f := fun k => spec_l6Number.j1 k s true) (fun k => by simp only [spec_l6Number.j0]; rw [if_neg (by simp), if_pos (by omega)]) (bad (by simp [digO, c0]))
  by_cases c9 : s.size > 9
  · exact Ex.step (f := fun k => spec_l6Number.j1 k s true) (fun k => by simp only [spec_l6Number.j0]; rw [if_neg (by simp), if_neg (by omega), if_pos (by omega)]) (bad (by simp [digO, c9]))
  have good : ¬(bt s 0 = 48 ∧ s.size > 1) → ∃ r, OkIs (digO s) r ∧ Ev (fun k => spec_l6Number.j1 k s false) r := fun h => by
    have e := specDig_l s (by omega) s.size 0 0 (by omega) (by simpa using pow9 (n := s.size) (by omega))
    rw [List.drop_zero] at e
    refine ⟨_, ?_, Ev.step (fun k => by simp only [spec_l6Number.j1]; exact if_neg (by simp)) e⟩
    have ed : digO s = if s.data.toList.all dgt = true then some (valN 0 s.data.toList : Int) else none := by unfold digO; rw [if_neg (by omega)]
    unfold OkIs
    rw [ed]
    by_cases ha : s.data.toList.all dgt = true
    · rw [if_pos ha, if_pos ha]; rfl
    · rw [if_neg ha, if_neg ha]; rfl
  by_cases c48 : bt s 0 = 48
  · by_cases c1 : s.size > 1
    · exact Ex.step (f := fun k => spec_l6Number.j1 k s true) (fun k => by simp only [spec_l6Number.j0]; rw [if_neg (by simp), if_neg (by omega), if_neg (by omega), if_pos (by omega), if_pos c48, decide_eq_true (by omega)]) (bad (by simp [digO, c48, c1]))
    · exact Ex.step (f := fun k => spec_l6Number.j1 k s false) (fun k => by simp only [spec_l6Number.j0]; rw [if_neg (by simp), if_neg (by omega), if_neg (by omega), if_pos (by omega), if_pos c48, decide_eq_false (by omega)]) (good (by omega))
  · exact Ex.step (f := fun k => spec_l6Number.j1 k s false) (fun k => by simp only [spec_l6Number.j0]; rw [if_neg (by simp), if_neg (by omega), if_neg (by omega), if_pos (by omega), if_neg c48]) (good (fun h => c48 h.1))
theorem ext1 (s : ByteArray) (h : 1 ≤ s.size) : (s.extract 1 s.size).size = s.size - 1 := by simp
theorem bt_ext (s : ByteArray) (h : 1 < s.size) : bt (s.extract 1 s.size) 0 = bt s 1 := by
  obtain ⟨b, hb, eb⟩ := bt_list s 1 h
  obtain ⟨c, hc, ec⟩ := bt_list (s.extract 1 s.size) 0 (by rw [ext1 s (by omega)]; omega)
  have e : (s.extract 1 s.size).data.toList = s.data.toList.drop 1 := Go.Lib.extract_to_end s 1
  rw [e, List.getElem?_drop, hb] at hc
  obtain rfl := Option.some.inj hc
  exact ec.trans eb.symm
theorem specNum_n (n : Nat) : ∀ s : ByteArray, s.size = n → s.size ≤ 1048576 → ∃ r, OkIs (numO s) r ∧ Ev (fun k => spec_l6Number.f k s) r := by
  induction n with
  | zero =>
    intro s h0 hs
    have := specPos_ev s hs (by omega)
    rwa [show digO s = numO s by unfold numO; rw [if_neg (by omega)]] at this
  | succ n ih =>
    intro s hn hs
    by_cases hm : s.size > 1 ∧ bt s 0 = 45
    · obtain ⟨r, hr, er⟩ := ih (s.extract 1 s.size) (by rw [ext1 s (by omega)]; omega) (by rw [ext1 s (by omega)]; omega)
      have hnum : numO s = if bt s 1 = 48 ∨ bt s 1 = 45 then none else (digO (s.extract 1 s.size)).map (fun v => -v) := by unfold numO; rw [if_pos hm]
      refine Ex.step (f := fun k => spec_l6Number.j0 k s true) (fun k => by simp only [spec_l6Number.f]; rw [if_pos (by omega), if_pos (by omega), show (bt s 0 == 45) = true from beq_iff_eq.mpr hm.2]) ?_
      refine Ex.step (fun k => by simp only [spec_l6Number.j0]; rw [if_pos trivial, if_pos (by omega)]) ?_
      refine Ex.bind er ?_
      unfold OkIs at hr
      by_cases h2 : r.2 = true
      · refine Ex.pos h2 (Ex.pos (by omega) ?_)
        rw [if_pos h2] at hr
        by_cases h48 : bt s 1 = 48
        · exact Ex.pos h48 ⟨_, by unfold OkIs; rw [hnum, if_pos (Or.inl h48)]; rfl, Ev.now _⟩
        · refine Ex.neg h48 ⟨_, ?_, Ev.now _⟩
          by_cases h45 : bt s 1 = 45
          · unfold OkIs; rw [hnum, if_pos (Or.inr h45), h45]; rfl
          · rw [if_neg (by omega)] at hnum
            have e2 : numO (s.extract 1 s.size) = digO (s.extract 1 s.size) := by
              unfold numO; rw [if_neg (fun hh => h45 (by rw [← bt_ext s hm.1]; exact hh.2))]
            rw [e2] at hr
            have hlt := digO_lt hr.symm
            unfold OkIs
            rw [hnum, ← hr, show (bt s 1 != 45) = true from bne_iff_ne.mpr h45, w64 (by omega) (by omega)]
            rfl
      · refine Ex.neg h2 ⟨_, ?_, Ev.now _⟩
        unfold OkIs
        rw [if_neg h2] at hr
        rw [hnum]
        by_cases hb : bt s 1 = 48 ∨ bt s 1 = 45
        · rw [if_pos hb]; rfl
        · rw [if_neg hb]
          have e2 : numO (s.extract 1 s.size) = digO (s.extract 1 s.size) := by
            unfold numO; rw [if_neg (fun hh => hb (Or.inr (by rw [← bt_ext s hm.1]; exact hh.2)))]
          rw [← e2, ← hr]; rfl
    · have := specPos_ev s hs hm
      rwa [show digO s = numO s by unfold numO; rw [if_neg hm]] at this
theorem specNum_ev (s : ByteArray) (hs : s.size ≤ 1048576) : ∃ r, OkIs (numO s) r ∧ Ev (fun k => spec_l6Number.f k s) r := specNum_n s.size s rfl hs
theorem trim_e (s : ByteArray) : strings_TrimPrefix.f s (⟨#[45]⟩ : ByteArray) = some (if s.size ≥ 1 ∧ bt s 0 = 45 then s.extract 1 s.size else s) := by
  have h1 : ((⟨#[45]⟩ : ByteArray).size : Int) = 1 := rfl
  have hp : stringslite_HasPrefix.f s (⟨#[45]⟩ : ByteArray) = some (decide (s.size ≥ 1 ∧ bt s 0 = 45)) := by
    simp only [stringslite_HasPrefix.f, h1]
    by_cases c : (s.size : Int) ≥ 1
    · rw [if_pos c, if_pos (by omega), if_pos (by omega)]
      congr 1
      obtain ⟨b, hb, eb⟩ := bt_list s 0 (by omega)
      have e0 : s.data.toList.take 1 = [b] := by
        have := drop_cons s 0 b hb
        rw [List.drop_zero] at this
        rw [this]; rfl
      have e : (s.extract 0 ((1 : Int)).toNat).toList = [b] := by
        rw [Go.Lib.toList_data, Go.Lib.extract_data]
        simpa using e0
      rw [e, Go.Lib.toList_data]
      show ([b] == [(45 : UInt8)]) = _
      have eb' : bt s 0 = (b.toNat : Int) := eb
      by_cases h : b = 45
      · subst h
        rw [decide_eq_true ⟨by omega, eb'⟩]; rfl
      · have : ¬ (b.toNat : Int) = 45 := fun e => h (UInt8.toNat_inj.mp (by show b.toNat = 45; omega))
        rw [decide_eq_false (by rw [eb']; exact fun hh => this hh.2)]
        simpa using h
    · rw [if_neg c, decide_eq_false (by omega)]
  simp only [strings_TrimPrefix.f, stringslite_TrimPrefix.f, hp, h1, Option.bind_some]
  by_cases c : s.size ≥ 1 ∧ bt s 0 = 45
  · rw [decide_eq_true c, if_pos rfl, if_pos (by omega), if_pos (by omega), if_pos c]; rfl
  · rw [decide_eq_false c, if_neg (by simp), if_neg c]; rfl
theorem pu_all (l : List UInt8) (hne : l ≠ []) (hl : l.length ≤ 9) (ha : l.all dgt = true) : Go.Lib.parseUintB 64 l = .ok (valN 0 l) := by
  unfold Go.Lib.parseUintB
  rw [if_neg hne]
  exact parse_all _ (by decide) l 0 ha (by rw [Nat.zero_add, Nat.one_mul]; exact pow9 hl)
theorem val_lt9 (l : List UInt8) (hl : l.length ≤ 9) (ha : l.all dgt = true) : valN 0 l < 1000000000 := by
  have h1 := valN_lt l 0 ha
  have h2 := pow9 hl
  omega
theorem pi_pos (c : UInt8) (r : List UInt8) (hl : (c :: r).length ≤ 9) (ha : (c :: r).all dgt = true) : Go.Lib.parseIntB 64 (c :: r) = .ok (valN 0 (c :: r) : Int) := by
  have hc := ha
  simp only [List.all_cons, Bool.and_eq_true, dgt, decide_eq_true_eq] at hc
  have hv := val_lt9 _ hl ha
  unfold Go.Lib.parseIntB
  simp only
  rw [if_neg (by omega), pu_all _ (by simp) hl ha]
  simp only
  rw [if_neg (fun h => absurd h.2 (by omega)), if_neg (fun h => absurd h.1 (by omega)), if_neg (by omega)]
theorem pi_neg (c : UInt8) (r : List UInt8) (h45 : c.toNat = 45) (hne : r ≠ []) (hl : r.length ≤ 9) (ha : r.all dgt = true) : Go.Lib.parseIntB 64 (c :: r) = .ok (-(valN 0 r : Int)) := by
  have hv := val_lt9 _ hl ha
  unfold Go.Lib.parseIntB
  simp only
  rw [if_pos (Or.inr h45), pu_all _ hne hl ha]
  simp only
  rw [if_neg (fun h => absurd h45 h.1), if_neg (fun h => absurd h.2 (by omega)), if_pos h45]
theorem parsed_pos (s : ByteArray) (h0 : s.size ≠ 0) (h9 : s.size ≤ 9) (ha : s.data.toList.all dgt = true) : strconv_ParseInt.f s 10 64 = some (valN 0 s.data.toList : Int) := by
  unfold strconv_ParseInt.f parsedInt
  rw [if_pos ⟨rfl, rfl, by omega⟩]
  rw [Go.Lib.size_eq] at h0 h9
  cases hd : s.data.toList with
  | nil => rw [hd] at h0; exact absurd rfl h0
  | cons c r =>
    rw [hd] at h9 ha
    rw [pi_pos c r h9 ha]
theorem parsed_neg (s : ByteArray) (h1 : 1 < s.size) (h9 : s.size ≤ 10) (hb : bt s 0 = 45) (ha : (s.data.toList.drop 1).all dgt = true) : strconv_ParseInt.f s 10 64 = some (-(valN 0 (s.data.toList.drop 1) : Int)) := by
  unfold strconv_ParseInt.f parsedInt
  rw [if_pos ⟨rfl, rfl, by omega⟩]
  obtain ⟨b, hb1, eb⟩ := bt_list s 0 (by omega)
  have hd := drop_cons s 0 b hb1
  rw [List.drop_zero] at hd
  have hlen : (s.data.toList.drop 1).length = s.size - 1 := by rw [List.length_drop, ← Go.Lib.size_eq]
  have e45 : bt s 0 = (b.toNat : Int) := eb
  have hpi : Go.Lib.parseIntB 64 s.data.toList = .ok (-(valN 0 (s.data.toList.drop 1) : Int)) := by
    have hp := pi_neg b (s.data.toList.drop 1) (by omega) (by intro e; rw [e] at hlen; simp at hlen; omega) (by omega) ha
    rw [← show s.data.toList = b :: s.data.toList.drop 1 from hd] at hp
    exact hp
  rw [hpi]
theorem implDig_l (x t : ByteArray) (v : Int) (ht : t.size ≤ 1048576) (d : Nat) : ∀ j : Nat, j + d = t.size → ((t.data.toList.drop j).all dgt = true → strconv_ParseInt.f x 10 64 = some v) → Ev (fun k => impl_number.l0 k x t (t.size : Int) j) (if (t.data.toList.drop j).all dgt = true then (v, true) else (0, false)) := by
  induction d with
  | zero =>
    intro j hj hp
    have e : t.data.toList.drop j = [] := List.drop_of_length_le (by rw [← Go.Lib.size_eq]; omega)
    rw [e] at hp ⊢
    exact Ev.step (fun k => by simp only [impl_number.l0]; rw [if_neg (by omega), hp rfl]; rfl) (Ev.now _)
  | succ d ih =>
    intro j hj hp
    obtain ⟨b, hb, eb⟩ := bt_list t j (by omega)
    rw [drop_cons _ j b hb, List.all_cons] at hp ⊢
    refine Ev.step (fun k => by simp only [impl_number.l0]; rw [if_pos (by omega), if_pos (by omega), if_pos (by omega), eb, w64 (by omega) (by omega)]) ?_
    by_cases c1 : (b.toNat : Int) < 48
    · rw [show dgt b = false by simp [dgt]; omega]
      exact Ev.pos c1 (Ev.now _)
    · refine Ev.neg c1 ?_
      by_cases c2 : (b.toNat : Int) > 57
      · rw [show dgt b = false by simp [dgt]; omega]
        exact Ev.pos c2 (Ev.now _)
      · have e : dgt b = true := by simp [dgt]; omega
        rw [e, Bool.true_and] at hp ⊢
        exact Ev.neg c2 (ih (j + 1) (by omega) hp)
theorem ne48 (s : ByteArray) (h : s.size > 1) : (s.toList != ([48] : List UInt8)) = true := by
  refine bne_iff_ne.mpr (fun e => ?_)
  rw [Go.Lib.toList_data] at e
  have := congrArg List.length e
  rw [← Go.Lib.size_eq] at this
  simp at this; omega
theorem eq48 (s : ByteArray) (h : s.size = 1) (hb : bt s 0 = 48) : (s.toList != ([48] : List UInt8)) = false := by
  refine bne_eq_false_iff_eq.mpr ?_
  rw [Go.Lib.toList_data]
  obtain ⟨b, hb1, eb⟩ := bt_list s 0 (by omega)
  have hd := drop_cons s 0 b hb1
  rw [List.drop_zero] at hd
  have e : bt s 0 = (b.toNat : Int) := eb
  rw [hd, List.drop_of_length_le (by rw [← Go.Lib.size_eq]; omega)]
  congr 1
  exact UInt8.toNat_inj.mp (by show b.toNat = 48; omega)
theorem not_all (s : ByteArray) (h : 1 ≤ s.size) (hb : bt s 0 = 45) : ¬ s.data.toList.all dgt = true := by
  intro ha
  obtain ⟨b, hb1, eb⟩ := bt_list s 0 (by omega)
  have hd := drop_cons s 0 b hb1
  rw [List.drop_zero] at hd
  have e : bt s 0 = (b.toNat : Int) := eb
  rw [hd, List.all_cons] at ha
  simp only [Bool.and_eq_true, dgt, decide_eq_true_eq] at ha
  omega
theorem implNum_ev (s : ByteArray) (hs : s.size ≤ 1048576) : ∃ r, OkIs (numO s) r ∧ Ev (fun k => impl_number.f k s) r := by
  simp only [impl_number.f]
  refine Ex.bind (Ev.ofE (trim_e s)) ?_
  have bad : ∀ t : ByteArray, numO s = none → ∃ r, OkIs (numO s) r ∧ Ev (fun k => impl_number.j0 k s t true) r := fun t h => ⟨(0, false), h.symm, Ev.step (fun k => by simp only [impl_number.j0]; exact if_pos trivial) (Ev.now _)⟩
  by_cases c : s.size ≥ 1 ∧ bt s 0 = 45
  · rw [if_pos c]
    have hts := ext1 s c.1
    have htd : (s.extract 1 s.size).data.toList = s.data.toList.drop 1 := Go.Lib.extract_to_end s 1
    by_cases c1 : s.size = 1
    · refine Ex.pos (by omega) (bad _ ?_)
      unfold numO digO
      rw [if_neg (by omega), if_neg (by omega), if_neg (not_all s c.1 c.2)]
    · have hn : numO s = if bt s 1 = 48 ∨ bt s 1 = 45 then none else (digO (s.extract 1 s.size)).map (fun v => -v) := by unfold numO; rw [if_pos ⟨by omega, c.2⟩]
      have hbe := bt_ext s (by omega)
      refine Ex.neg (by omega) ?_
      by_cases c9 : ((s.extract 1 s.size).size : Int) > 9
      · refine Ex.pos c9 (bad _ ?_)
        rw [hn]
        split
        · rfl
        · unfold digO; rw [if_pos (by omega)]; rfl
      · refine Ex.neg c9 (Ex.pos (by omega) ?_)
        by_cases c48 : bt (s.extract 1 s.size) 0 = 48
        · refine Ex.pos c48 ?_
          rw [ne48 s (by omega)]
          exact bad _ (by rw [hn, if_pos (Or.inl (by omega))])
        · refine Ex.neg c48 ?_
          refine Ex.step (fun k => by simp only [impl_number.j0]; exact if_neg (by simp)) ?_
          have e := implDig_l s (s.extract 1 s.size) (-(valN 0 (s.data.toList.drop 1) : Int)) (by omega) (s.extract 1 s.size).size 0 (by omega) (fun ha => parsed_neg s (by omega) (by omega) c.2 (by rw [List.drop_zero, htd] at ha; exact ha))
          rw [List.drop_zero, htd] at e
          refine ⟨_, ?_, e⟩
          have ed : digO (s.extract 1 s.size) = if (s.data.toList.drop 1).all dgt = true then some (valN 0 (s.data.toList.drop 1) : Int) else none := by unfold digO; rw [if_neg (by omega), htd]
          by_cases ha : (s.data.toList.drop 1).all dgt = true
          · have h45 : ¬ bt s 1 = 45 := fun h => not_all (s.extract 1 s.size) (by omega) (by omega) (by rw [htd]; exact ha)
            have hv : numO s = some (-(valN 0 (s.data.toList.drop 1) : Int)) := by rw [hn, if_neg (by omega), ed, if_pos ha]; rfl
            rw [if_pos ha, hv]; rfl
          · have hv : numO s = none := by
              rw [hn, ed, if_neg ha]
              split <;> rfl
            rw [if_neg ha, hv]; rfl
  · rw [if_neg c]
    have hn : numO s = digO s := by unfold numO; rw [if_neg (fun h => c ⟨by omega, h.2⟩)]
    by_cases c0 : (s.size : Int) = 0
    · exact Ex.pos c0 (bad _ (by rw [hn]; unfold digO; rw [if_pos (by omega)]))
    refine Ex.neg c0 ?_
    by_cases c9 : (s.size : Int) > 9
    · exact Ex.pos c9 (bad _ (by rw [hn]; unfold digO; rw [if_pos (by omega)]))
    refine Ex.neg c9 (Ex.pos (by omega) ?_)
    have good : ¬(bt s 0 = 48 ∧ s.size > 1) → ∃ r, OkIs (numO s) r ∧ Ev (fun k => impl_number.j0 k s s false) r := fun h => by
      refine Ex.step (fun k => by simp only [impl_number.j0]; exact if_neg (by simp)) ?_
      have e := implDig_l s s (valN 0 s.data.toList : Int) hs s.size 0 (by omega) (fun ha => parsed_pos s (by omega) (by omega) (by rwa [List.drop_zero] at ha))
      rw [List.drop_zero] at e
      refine ⟨_, ?_, e⟩
      have ed : numO s = if s.data.toList.all dgt = true then some (valN 0 s.data.toList : Int) else none := by rw [hn]; unfold digO; rw [if_neg (by omega)]
      unfold OkIs
      rw [ed]
      by_cases ha : s.data.toList.all dgt = true
      · rw [if_pos ha, if_pos ha]; rfl
      · rw [if_neg ha, if_neg ha]; rfl
    by_cases c48 : bt s 0 = 48
    · refine Ex.pos c48 ?_
      by_cases c1 : s.size > 1
      · rw [ne48 s c1]
        exact bad _ (by rw [hn]; unfold digO; rw [if_pos (Or.inr (Or.inr ⟨c48, c1⟩))])
      · rw [eq48 s (by omega) c48]
        exact good (fun h => c1 h.2)
    · exact Ex.neg c48 (good (fun h => c48 h.1))
def semi (s : ByteArray) : Bool := s.toList == ([59] : List UInt8)
def w0 (F : List ByteArray) : List UInt8 := (rdOf ByteArray.empty F 0).toList
def datB (s : ByteArray) : ByteArray := if s.toList = ([45] : List UInt8) then (⟨#[]⟩ : ByteArray) else s
def o4 (F : List ByteArray) : Option S124 := if F.length = 3 ∧ w0 F = [100, 101, 108, 101, 116, 101] then (numO (rdOf ByteArray.empty F 2)).map (fun v => ⟨2, rdOf ByteArray.empty F 1, ⟨#[]⟩, v, false⟩) else if F.length = 3 ∧ w0 F = [99, 104, 101, 99, 107] then (numO (rdOf ByteArray.empty F 2)).map (fun v => ⟨4, rdOf ByteArray.empty F 1, ⟨#[]⟩, v, false⟩) else none
def o3 (F : List ByteArray) : Option S124 := if F.length = 4 ∧ w0 F = [115, 101, 116] then (numO (rdOf ByteArray.empty F 3)).map (fun v => ⟨3, rdOf ByteArray.empty F 1, datB (rdOf ByteArray.empty F 2), v, false⟩) else o4 F
def o2 (F : List ByteArray) : Option S124 := if F.length = 3 ∧ w0 F = [115, 101, 113] then some ⟨1, rdOf ByteArray.empty F 1, datB (rdOf ByteArray.empty F 2), 0, true⟩ else o3 F
def o1 (F : List ByteArray) : Option S124 := if F.length = 3 ∧ w0 F = [99, 114, 101, 97, 116, 101] then some ⟨1, rdOf ByteArray.empty F 1, datB (rdOf ByteArray.empty F 2), 0, false⟩ else o2 F
/-- An operation's fields, read. -/
def opO (F : List ByteArray) : Option S124 := if F.any semi then none else o1 F
def OpIs (o : Option S124) (r : Int × ByteArray × ByteArray × Int × Bool × Bool) : Prop := (if r.2.2.2.2.2 = true then some (⟨r.1, r.2.1, r.2.2.1, r.2.2.2.1, r.2.2.2.2.1⟩ : S124) else none) = o
theorem dat_e (s : ByteArray) : impl_data.f s = some (datB s) := by
  unfold impl_data.f datB
  split <;> rfl
theorem rd_size (F : List ByteArray) (hs : ∀ x ∈ F, x.size ≤ 1048576) (i : Nat) (hi : i < F.length) : (rdOf ByteArray.empty F i).size ≤ 1048576 := by
  have er : rdOf ByteArray.empty F (i : Int) = F[i] := by simp [rdOf, hi]
  rw [er]; exact hs _ (List.getElem_mem hi)
theorem OpIs.num {o : Option Int} {r : Int × Bool} (h : OkIs o r) (kd : Int) (a b : ByteArray) (s : Bool) : OpIs (o.map (fun v => (⟨kd, a, b, v, s⟩ : S124))) (kd, a, b, r.1, s, r.2) := by
  unfold OkIs at h
  unfold OpIs
  rw [← h]
  by_cases c : r.2 = true
  · rw [if_pos c, if_pos c]; rfl
  · rw [if_neg c, if_neg c]; rfl
theorem specOp_j4 (F : List ByteArray) (hs : ∀ x ∈ F, x.size ≤ 1048576) (b : Bool) (hb : b = true ↔ (F.length = 3 ∧ (w0 F = [100, 101, 108, 101, 116, 101] ∨ w0 F = [99, 104, 101, 99, 107]))) : ∃ r, OpIs (o4 F) r ∧ Ev (fun k => spec_l6Op.j4 k F b) r := by
  refine Ex.step (fun k => by simp only [spec_l6Op.j4]; rfl) ?_
  by_cases c : b = true
  · obtain ⟨h3, hw⟩ := hb.1 c
    refine Ex.pos c (Ex.pos (by omega) ?_)
    obtain ⟨r, hr, er⟩ := specNum_ev (rdOf ByteArray.empty F 2) (rd_size F hs 2 (by omega))
    refine Ex.bind er (Ex.pos (by omega) ?_)
    by_cases c2 : w0 F = [99, 104, 101, 99, 107]
    · refine Ex.pos c2 (Ex.pos (by omega) ⟨_, ?_, Ev.now _⟩)
      unfold o4
      rw [if_neg (fun h => by rw [c2] at h; exact absurd h.2 (by decide)), if_pos ⟨h3, c2⟩]
      exact OpIs.num hr _ _ _ _
    · have c1 : w0 F = [100, 101, 108, 101, 116, 101] := by rcases hw with h | h; exact h; exact absurd h c2
      refine Ex.neg c2 (Ex.pos (by omega) ⟨_, ?_, Ev.now _⟩)
      unfold o4
      rw [if_pos ⟨h3, c1⟩]
      exact OpIs.num hr _ _ _ _
  · refine Ex.neg c ⟨_, ?_, Ev.now _⟩
    have hn := fun h => c (hb.2 h)
    unfold o4
    rw [if_neg (fun h => hn ⟨h.1, Or.inl h.2⟩), if_neg (fun h => hn ⟨h.1, Or.inr h.2⟩)]; rfl
theorem specOp_j3 (F : List ByteArray) (hs : ∀ x ∈ F, x.size ≤ 1048576) (b : Bool) (hb : b = true ↔ (F.length = 4 ∧ w0 F = [115, 101, 116])) : ∃ r, OpIs (o3 F) r ∧ Ev (fun k => spec_l6Op.j3 k F b) r := by
  refine Ex.step (fun k => by simp only [spec_l6Op.j3]; rfl) ?_
  by_cases c : b = true
  · obtain ⟨h3, hw⟩ := hb.1 c
    refine Ex.pos c (Ex.pos (by omega) ?_)
    obtain ⟨r, hr, er⟩ := specNum_ev (rdOf ByteArray.empty F 3) (rd_size F hs 3 (by omega))
    refine Ex.bind er (Ex.pos (by omega) (Ex.pos (by omega) (Ex.bind (Ev.ofE (dat_e _)) ⟨_, ?_, Ev.now _⟩)))
    unfold o3
    rw [if_pos ⟨h3, hw⟩]
    exact OpIs.num hr _ _ _ _
  · have e : o3 F = o4 F := by unfold o3; rw [if_neg (fun h => c (hb.2 h))]
    rw [e]
    refine Ex.neg c ?_
    by_cases h3 : (F.length : Int) = 3
    · refine Ex.pos h3 (Ex.pos (by omega) ?_)
      by_cases hd : w0 F = [100, 101, 108, 101, 116, 101]
      · exact Ex.pos hd (specOp_j4 F hs true ⟨fun _ => ⟨by omega, Or.inl hd⟩, fun _ => rfl⟩)
      · refine Ex.neg hd (specOp_j4 F hs _ ⟨fun h => ⟨by omega, Or.inr (beq_iff_eq.mp h)⟩, fun h => ?_⟩)
        rcases h.2 with h | h
        · exact absurd h hd
        · exact beq_iff_eq.mpr h
    · exact Ex.neg h3 (specOp_j4 F hs false ⟨fun h => by simp at h, fun h => absurd h.1 (by omega)⟩)
theorem specOp_j2 (F : List ByteArray) (hs : ∀ x ∈ F, x.size ≤ 1048576) (b : Bool) (hb : b = true ↔ (F.length = 3 ∧ w0 F = [115, 101, 113])) : ∃ r, OpIs (o2 F) r ∧ Ev (fun k => spec_l6Op.j2 k F b) r := by
  refine Ex.step (fun k => by simp only [spec_l6Op.j2]; rfl) ?_
  by_cases c : b = true
  · obtain ⟨h3, hw⟩ := hb.1 c
    refine Ex.pos c (Ex.pos (by omega) (Ex.pos (by omega) (Ex.bind (Ev.ofE (dat_e _)) ⟨_, ?_, Ev.now _⟩)))
    unfold o2
    rw [if_pos ⟨h3, hw⟩]; rfl
  · have e : o2 F = o3 F := by unfold o2; rw [if_neg (fun h => c (hb.2 h))]
    rw [e]
    refine Ex.neg c ?_
    by_cases h3 : (F.length : Int) = 4
    · exact Ex.pos h3 (Ex.pos (by omega) (specOp_j3 F hs _ ⟨fun h => ⟨by omega, beq_iff_eq.mp h⟩, fun h => beq_iff_eq.mpr h.2⟩))
    · exact Ex.neg h3 (specOp_j3 F hs false ⟨fun h => by simp at h, fun h => absurd h.1 (by omega)⟩)
theorem specOp_j1 (F : List ByteArray) (hs : ∀ x ∈ F, x.size ≤ 1048576) (b : Bool) (hb : b = true ↔ (F.length = 3 ∧ w0 F = [99, 114, 101, 97, 116, 101])) : ∃ r, OpIs (o1 F) r ∧ Ev (fun k => spec_l6Op.j1 k F b) r := by
  refine Ex.step (fun k => by simp only [spec_l6Op.j1]; rfl) ?_
  by_cases c : b = true
  · obtain ⟨h3, hw⟩ := hb.1 c
    refine Ex.pos c (Ex.pos (by omega) (Ex.pos (by omega) (Ex.bind (Ev.ofE (dat_e _)) ⟨_, ?_, Ev.now _⟩)))
    unfold o1
    rw [if_pos ⟨h3, hw⟩]; rfl
  · have e : o1 F = o2 F := by unfold o1; rw [if_neg (fun h => c (hb.2 h))]
    rw [e]
    refine Ex.neg c ?_
    by_cases h3 : (F.length : Int) = 3
    · exact Ex.pos h3 (Ex.pos (by omega) (specOp_j2 F hs _ ⟨fun h => ⟨by omega, beq_iff_eq.mp h⟩, fun h => beq_iff_eq.mpr h.2⟩))
    · exact Ex.neg h3 (specOp_j2 F hs false ⟨fun h => by simp at h, fun h => absurd h.1 (by omega)⟩)
theorem specOp_l (F : List ByteArray) (hF : F.length ≤ 1048576) (hs : ∀ x ∈ F, x.size ≤ 1048576) (d : Nat) : ∀ i : Nat, i + d = F.length → ∃ r, OpIs (if (F.drop i).any semi then none else o1 F) r ∧ Ev (fun k => spec_l6Op.l0 k F i) r := by
  induction d with
  | zero =>
    intro i hi
    rw [List.drop_of_length_le (by omega)]
    refine Ex.step (fun k => by simp only [spec_l6Op.l0]; exact if_neg (by omega)) ?_
    rw [if_neg (by simp)]
    by_cases h3 : (F.length : Int) = 3
    · exact Ex.pos h3 (Ex.pos (by omega) (specOp_j1 F hs _ ⟨fun h => ⟨by omega, beq_iff_eq.mp h⟩, fun h => beq_iff_eq.mpr h.2⟩))
    · exact Ex.neg h3 (specOp_j1 F hs false ⟨fun h => by simp at h, fun h => absurd h.1 (by omega)⟩)
  | succ d ih =>
    intro i hi
    have hil : i < F.length := by omega
    have er : rdOf ByteArray.empty F (i : Int) = F[i] := by simp [rdOf, hil]
    rw [List.drop_eq_getElem_cons hil, List.any_cons]
    refine Ex.step (fun k => by simp only [spec_l6Op.l0]; rw [if_pos (by omega), if_pos (by omega), er, w64 (by omega) (by omega)]) ?_
    by_cases h : F[i].toList = ([59] : List UInt8)
    · rw [show semi F[i] = true from beq_iff_eq.mpr h]
      exact Ex.pos h ⟨(0, ⟨#[]⟩, ⟨#[]⟩, 0, false, false), rfl, Ev.now _⟩
    · rw [show semi F[i] = false from beq_eq_false_iff_ne.mpr h, Bool.false_or]
      exact Ex.neg h (ih (i + 1) (by omega))
theorem specOp_ev (F : List ByteArray) (hF : F.length ≤ 1048576) (hs : ∀ x ∈ F, x.size ≤ 1048576) : ∃ r, OpIs (opO F) r ∧ Ev (fun k => spec_l6Op.f k F) r := by
  simp only [spec_l6Op.f]
  have := specOp_l F hF hs F.length 0 (by omega)
  rwa [List.drop_zero] at this
theorem key_eq (l : List UInt8) (s : ByteArray) : ((⟨l.toArray⟩ : ByteArray) = s) ↔ s.toList = l := by
  rw [Go.Lib.toList_data]
  constructor
  · intro h; rw [← h]
  · intro h; exact data_inj h.symm
def wantN (w : List UInt8) : Int := if w = [99, 104, 101, 99, 107] then 3 else if w = [115, 101, 116] then 4 else if w = [100, 101, 108, 101, 116, 101] then 3 else if w = [115, 101, 113] then 3 else if w = [99, 114, 101, 97, 116, 101] then 3 else 0
theorem want_e (s : ByteArray) : strconv_Itoa.f s = some (wantN s.toList) := by
  unfold strconv_Itoa.f wantL wantN
  congr 1
  have k := fun l => key_eq l s
  simp only [YtfiojiokmkiflaaDoorH.aget_aset]
  by_cases c0 : s.toList = [99, 104, 101, 99, 107]
  · rw [if_pos ((k _).2 c0), if_pos c0]; rfl
  rw [if_neg (fun h => c0 ((k _).1 h)), if_neg c0]
  by_cases c1 : s.toList = [115, 101, 116]
  · rw [if_pos ((k _).2 c1), if_pos c1]; rfl
  rw [if_neg (fun h => c1 ((k _).1 h)), if_neg c1]
  by_cases c2 : s.toList = [100, 101, 108, 101, 116, 101]
  · rw [if_pos ((k _).2 c2), if_pos c2]; rfl
  rw [if_neg (fun h => c2 ((k _).1 h)), if_neg c2]
  by_cases c3 : s.toList = [115, 101, 113]
  · rw [if_pos ((k _).2 c3), if_pos c3]; rfl
  rw [if_neg (fun h => c3 ((k _).1 h)), if_neg c3]
  by_cases c4 : s.toList = [99, 114, 101, 97, 116, 101]
  · rw [if_pos ((k _).2 c4), if_pos c4]; rfl
  rw [if_neg (fun h => c4 ((k _).1 h)), if_neg c4]
  rfl
theorem implHas_l (F : List ByteArray) (hF : F.length ≤ 1048576) (d : Nat) : ∀ i : Nat, i + d = F.length → ∃ r : Int, (decide (r ≥ 0) = (F.drop i).any semi) ∧ Ev (fun k => slices_Index_string_string.l0 k F (⟨#[59]⟩ : ByteArray) (F.length : Int) i) r := by
  induction d with
  | zero =>
    intro i hi
    rw [List.drop_of_length_le (by omega)]
    exact Ex.step (fun k => by simp only [slices_Index_string_string.l0]; exact if_neg (by omega)) ⟨-1, rfl, Ev.now _⟩
  | succ d ih =>
    intro i hi
    have hil : i < F.length := by omega
    have er : rdOf ByteArray.empty F (i : Int) = F[i] := by simp [rdOf, hil]
    have e59 : (⟨#[59]⟩ : ByteArray).toList = [59] := by rw [Go.Lib.toList_data]
    rw [List.drop_eq_getElem_cons hil, List.any_cons]
    refine Ex.step (fun k => by simp only [slices_Index_string_string.l0]; rw [if_pos (by omega), if_pos (by omega), if_pos (by omega), er, e59, w64 (by omega) (by omega)]) ?_
    by_cases h : [59] = F[i].toList
    · rw [show semi F[i] = true from beq_iff_eq.mpr h.symm]
      exact Ex.pos h ⟨(i : Int), by rw [decide_eq_true (by omega)]; rfl, Ev.now _⟩
    · rw [show semi F[i] = false from beq_eq_false_iff_ne.mpr (fun e => h e.symm), Bool.false_or]
      exact Ex.neg h (ih (i + 1) (by omega))
theorem implHas_ev (F : List ByteArray) (hF : F.length ≤ 1048576) : Ev (fun k => slices_Contains_string_string.f k F (⟨#[59]⟩ : ByteArray)) (F.any semi) := by
  obtain ⟨r, hr, er⟩ := implHas_l F hF F.length 0 (by omega)
  rw [List.drop_zero] at hr
  simp only [slices_Contains_string_string.f, slices_Index_string_string.f]
  refine Ev.bind er ?_
  rw [hr]
  exact Ev.now _
theorem implOp_j1 (F : List ByteArray) (hs : ∀ x ∈ F, x.size ≤ 1048576) (hw : wantN (w0 F) = (F.length : Int)) (h0 : 1 ≤ F.length) : ∃ r, OpIs (o1 F) r ∧ Ev (fun k => impl_operation.j0 k F false) r := by
  have h1 : F.length = 3 ∨ F.length = 4 := by
    unfold wantN at hw
    split at hw
    · omega
    split at hw
    · omega
    split at hw
    · omega
    split at hw
    · omega
    split at hw
    · omega
    · omega
  have eF : (rdOf ByteArray.empty F 0).toList = w0 F := rfl
  by_cases c1 : w0 F = [99, 114, 101, 97, 116, 101]
  · have h3 : F.length = 3 := by rw [c1] at hw; have : wantN [99, 114, 101, 97, 116, 101] = 3 := by decide
                                 omega
    refine Ex.step (fun k => by simp only [impl_operation.j0]; rw [if_neg (by simp), if_pos (by omega), if_pos (by omega), eF, if_pos c1, c1]) ?_
    refine Ex.step (fun k => by simp only [impl_operation.j1]; rw [if_pos (by decide), if_pos (by omega)]) ?_
    refine Ex.bind (Ev.ofE (dat_e _)) (Ex.pos (by omega) ⟨_, ?_, Ev.now _⟩)
    unfold o1
    rw [if_pos ⟨h3, c1⟩, eF, c1]; rfl
  by_cases c2 : w0 F = [115, 101, 113]
  · have h3 : F.length = 3 := by rw [c2] at hw; have : wantN [115, 101, 113] = 3 := by decide
                                 omega
    refine Ex.step (fun k => by simp only [impl_operation.j0]; rw [if_neg (by simp), if_pos (by omega), if_pos (by omega), eF, if_neg c1, c2]) ?_
    refine Ex.step (fun k => by simp only [impl_operation.j1]; rw [if_pos (by decide), if_pos (by omega)]) ?_
    refine Ex.bind (Ev.ofE (dat_e _)) (Ex.pos (by omega) ⟨_, ?_, Ev.now _⟩)
    unfold o1 o2
    rw [if_neg (fun h => c1 h.2), if_pos ⟨h3, c2⟩, eF, c2]; rfl
  refine Ex.step (fun k => by simp only [impl_operation.j0]; rw [if_neg (by simp), if_pos (by omega), if_pos (by omega), eF, if_neg c1, show (w0 F == [115, 101, 113]) = false from beq_eq_false_iff_ne.mpr c2]) ?_
  have e1 : o1 F = o3 F := by unfold o1 o2; rw [if_neg (fun h => c1 h.2), if_neg (fun h => c2 h.2)]
  rw [e1]
  by_cases c3 : w0 F = [115, 101, 116]
  · have h3 : F.length = 4 := by rw [c3] at hw; have : wantN [115, 101, 116] = 4 := by decide
                                 omega
    obtain ⟨r, hr, er⟩ := implNum_ev (rdOf ByteArray.empty F 3) (rd_size F hs 3 (by omega))
    refine Ex.step (fun k => by simp only [impl_operation.j1]; rw [if_neg (by simp), eF, if_pos c3, if_pos (by omega)]) ?_
    refine Ex.bind (Ev.ofE (dat_e _)) (Ex.pos (by omega) (Ex.bind er ⟨_, ?_, Ev.now _⟩))
    unfold o3
    rw [if_pos ⟨h3, c3⟩]
    exact OpIs.num hr _ _ _ _
  have e3 : o3 F = o4 F := by unfold o3; rw [if_neg (fun h => c3 h.2)]
  rw [e3]
  by_cases c4 : w0 F = [100, 101, 108, 101, 116, 101]
  · have h3 : F.length = 3 := by rw [c4] at hw; have : wantN [100, 101, 108, 101, 116, 101] = 3 := by decide
                                 omega
    obtain ⟨r, hr, er⟩ := implNum_ev (rdOf ByteArray.empty F 2) (rd_size F hs 2 (by omega))
    refine Ex.step (fun k => by simp only [impl_operation.j1]; rw [if_neg (by simp), eF, if_neg c3, if_pos c4, if_pos (by omega)]) ?_
    refine Ex.bind er ⟨_, ?_, Ev.now _⟩
    unfold o4
    rw [if_pos ⟨h3, c4⟩]
    exact OpIs.num hr _ _ _ _
  have c5 : w0 F = [99, 104, 101, 99, 107] := by
    by_cases c5 : w0 F = [99, 104, 101, 99, 107]
    · exact c5
    · unfold wantN at hw
      rw [if_neg c5, if_neg c3, if_neg c4, if_neg c2, if_neg c1] at hw
      omega
  have h3 : F.length = 3 := by rw [c5] at hw; have : wantN [99, 104, 101, 99, 107] = 3 := by decide
                               omega
  obtain ⟨r, hr, er⟩ := implNum_ev (rdOf ByteArray.empty F 2) (rd_size F hs 2 (by omega))
  refine Ex.step (fun k => by simp only [impl_operation.j1]; rw [if_neg (by simp), eF, if_neg c3, if_neg c4, if_pos c5, if_pos (by omega)]) ?_
  refine Ex.bind er ⟨_, ?_, Ev.now _⟩
  unfold o4
  rw [if_neg (fun h => c4 h.2), if_pos ⟨h3, c5⟩]
  exact OpIs.num hr _ _ _ _
theorem o1_want {F : List ByteArray} (h : wantN (w0 F) ≠ (F.length : Int)) : o1 F = none := by
  unfold o1 o2 o3 o4
  have e : ∀ (n : Nat) (w : List UInt8), wantN w = n → ¬ (F.length = n ∧ w0 F = w) := fun n w hw hh => h (by rw [hh.2, hw, hh.1])
  rw [if_neg (e 3 _ (by decide)), if_neg (e 3 _ (by decide)), if_neg (e 4 _ (by decide)), if_neg (e 3 _ (by decide)), if_neg (e 3 _ (by decide))]
theorem implOp_ev (F : List ByteArray) (hF : F.length ≤ 1048576) (h1 : 1 ≤ F.length) (hs : ∀ x ∈ F, x.size ≤ 1048576) : ∃ r, OpIs (opO F) r ∧ Ev (fun k => impl_operation.f k F) r := by
  simp only [impl_operation.f]
  refine Ex.pos (by omega) (Ex.bind (Ev.ofE (want_e _)) ?_)
  have bad : opO F = none → ∃ r, OpIs (opO F) r ∧ Ev (fun k => impl_operation.j0 k F true) r := fun h => ⟨(0, ⟨#[]⟩, ⟨#[]⟩, 0, false, false), h.symm, Ev.step (fun k => by simp only [impl_operation.j0]; exact if_pos trivial) (Ev.now _)⟩
  by_cases c : wantN (w0 F) = (F.length : Int)
  · refine Ex.pos c (Ex.bind (implHas_ev F hF) ?_)
    by_cases c2 : F.any semi = true
    · rw [c2]
      exact bad (by unfold opO; rw [if_pos c2])
    · have e : opO F = o1 F := by unfold opO; rw [if_neg c2]
      rw [show F.any semi = false by simpa using c2, e]
      exact implOp_j1 F hs c h1
  · refine Ex.neg c (bad ?_)
    unfold opO
    rw [o1_want c]
    split <;> rfl
/-- The operations of a request, a field ";" between them; cur: the fields of the one that is being read. -/
def opsO : List ByteArray → List ByteArray → Option (List S124)
  | cur, [] => (opO cur).map (fun o => [o])
  | cur, f :: t => if semi f = true then (opO cur).bind (fun o => (opsO [] t).map (fun os => o :: os)) else opsO (cur ++ [f]) t
theorem opO_nil : opO [] = none := by
  unfold opO o1 o2 o3 o4
  simp
def OpsIs (o : Option (List S124)) (r : List S124 × Bool) : Prop := (if r.2 = true then some r.1 else none) = o
theorem OpIs.cases {o : Option S124} {r : Int × ByteArray × ByteArray × Int × Bool × Bool} (h : OpIs o r) : (r.2.2.2.2.2 = true ∧ o = some (⟨r.1, r.2.1, r.2.2.1, r.2.2.2.1, r.2.2.2.2.1⟩ : S124)) ∨ (¬ r.2.2.2.2.2 = true ∧ o = none) := by
  unfold OpIs at h
  by_cases c : r.2.2.2.2.2 = true
  · rw [if_pos c] at h; exact Or.inl ⟨c, h.symm⟩
  · rw [if_neg c] at h; exact Or.inr ⟨c, h.symm⟩
theorem specOps_j (n : Nat) (ih : ∀ F : List ByteArray, F.length < n → F.length ≤ 1048576 → (∀ x ∈ F, x.size ≤ 1048576) → ∃ r, (OpsIs (opsO [] F) r ∧ r.1.length ≤ F.length + 1) ∧ Ev (fun k => spec_l6Ops.f k F) r)
    (F : List ByteArray) (hn : F.length = n) (hF : F.length ≤ 1048576) (hs : ∀ x ∈ F, x.size ≤ 1048576) (i : Nat) (hi : i ≤ F.length)
    (e : opsO [] F = if i = F.length then (opO (F.take i)).map (fun o => [o]) else (opO (F.take i)).bind (fun o => (opsO [] (F.drop (i + 1))).map (fun os => o :: os))) :
    ∃ r, (OpsIs (opsO [] F) r ∧ r.1.length ≤ F.length + 1) ∧ Ev (fun k => spec_l6Ops.j1 k F i) r := by
  obtain ⟨r, hr, er⟩ := specOp_ev (F.take i) (by rw [List.length_take]; omega) (fun x hx => hs x (List.mem_of_mem_take hx))
  refine Ex.step (fun k => by simp only [spec_l6Ops.j1, Option.bind_some]; rw [if_pos (by omega), if_pos (by omega), Int.toNat_natCast]) (Ex.bind er ?_)
  rcases hr.cases with ⟨h, ho⟩ | ⟨h, ho⟩
  · refine Ex.pos h ?_
    by_cases hin : i = F.length
    · refine Ex.pos (by omega) ⟨_, ⟨?_, ?_⟩, Ev.now _⟩
      · unfold OpsIs; rw [e, if_pos hin, ho, if_pos h]; rfl
      · simp
    · refine Ex.neg (by omega) ?_
      obtain ⟨r2, ⟨hr2, hl2⟩, er2⟩ := ih (F.drop (i + 1)) (by rw [List.length_drop]; omega) (by rw [List.length_drop]; omega) (fun x hx => hs x (List.mem_of_mem_drop hx))
      rw [List.length_drop] at hl2
      have hw : wrap64 ((i : Int) + 1) = ((i + 1 : Nat) : Int) := by rw [w64 (by omega) (by omega)]; omega
      rw [hw]
      refine Ex.pos (by omega) (Ex.pos (by omega) (Ex.bind er2 (Ex.pos (by simp; omega) ⟨_, ⟨?_, ?_⟩, Ev.now _⟩)))
      · unfold OpsIs at hr2 ⊢
        rw [e, if_neg hin, ho, ← hr2]
        by_cases c : r2.2 = true
        · rw [if_pos c, if_pos c]; rfl
        · rw [if_neg c, if_neg c]; rfl
      · simp; omega
  · refine Ex.neg h ⟨_, ⟨?_, ?_⟩, Ev.now _⟩
    · unfold OpsIs; rw [e, ho, if_neg h]
      split <;> rfl
    · simp
theorem specOps_l (n : Nat) (ih : ∀ F : List ByteArray, F.length < n → F.length ≤ 1048576 → (∀ x ∈ F, x.size ≤ 1048576) → ∃ r, (OpsIs (opsO [] F) r ∧ r.1.length ≤ F.length + 1) ∧ Ev (fun k => spec_l6Ops.f k F) r)
    (F : List ByteArray) (hn : F.length = n) (hF : F.length ≤ 1048576) (hs : ∀ x ∈ F, x.size ≤ 1048576) (d : Nat) : ∀ i : Nat, i + d = F.length → opsO [] F = opsO (F.take i) (F.drop i) →
    ∃ r, (OpsIs (opsO [] F) r ∧ r.1.length ≤ F.length + 1) ∧ Ev (fun k => spec_l6Ops.l0 k F i) r := by
  induction d with
  | zero =>
    intro i hi e
    refine Ex.step (fun k => by simp only [spec_l6Ops.l0]; exact if_neg (by omega)) (specOps_j n ih F hn hF hs i (by omega) ?_)
    rw [if_pos (by omega), e, List.drop_of_length_le (by omega), opsO]
  | succ d ihd =>
    intro i hi e
    have hil : i < F.length := by omega
    have er : rdOf ByteArray.empty F (i : Int) = F[i] := by simp [rdOf, hil]
    rw [List.drop_eq_getElem_cons hil, opsO] at e
    refine Ex.step (fun k => by simp only [spec_l6Ops.l0]; rw [if_pos (by omega), if_pos (by omega), er, w64 (by omega) (by omega)]) ?_
    by_cases h : F[i].toList = ([59] : List UInt8)
    · refine Ex.pos h (specOps_j n ih F hn hF hs i (by omega) ?_)
      rw [if_neg (by omega), e, if_pos (show semi F[i] = true from beq_iff_eq.mpr h)]
    · rw [if_neg (show ¬ semi F[i] = true from fun hh => h (beq_iff_eq.mp hh))] at e
      refine Ex.neg h (ihd (i + 1) (by omega) ?_)
      rw [e, List.take_add_one, List.getElem?_eq_getElem hil]; rfl
theorem specOps_n (n : Nat) : ∀ F : List ByteArray, F.length < n → F.length ≤ 1048576 → (∀ x ∈ F, x.size ≤ 1048576) → ∃ r, (OpsIs (opsO [] F) r ∧ r.1.length ≤ F.length + 1) ∧ Ev (fun k => spec_l6Ops.f k F) r := by
  induction n with
  | zero => intro F h; omega
  | succ n ih =>
    intro F h hF hs
    refine Ex.step (fun k => by simp only [spec_l6Ops.f]; rfl) (specOps_l F.length (fun G hG => ih G (by omega)) F rfl hF hs F.length 0 (by omega) (by rfl))
theorem specOps_ev (F : List ByteArray) (hF : F.length ≤ 1048576) (hs : ∀ x ∈ F, x.size ≤ 1048576) : ∃ r, (OpsIs (opsO [] F) r ∧ r.1.length ≤ F.length + 1) ∧ Ev (fun k => spec_l6Ops.f k F) r := specOps_n (F.length + 1) F (by omega) hF hs
def LnIs (o : Option (Int × List S124 × Bool × ByteArray × List Int)) (r : Int × List S124 × Bool × ByteArray × List Int × Bool) : Prop := (if r.2.2.2.2.2 = true then some (r.1, r.2.1, r.2.2.1, r.2.2.2.1, r.2.2.2.2.1) else none) = o
theorem implOps_j (F : List ByteArray) (hF : F.length ≤ 1048576) (hs : ∀ x ∈ F, x.size ≤ 1048576) (f i : Nat) (h1 : 1 ≤ f) (hf : f ≤ i) (hi : i ≤ F.length) (os : List S124) (hos : os.length ≤ i) (o : Option (Int × List S124 × Bool × ByteArray × List Int))
    (hbad : opO ((F.take i).drop f) = none → o = none)
    (hgood : ∀ x, opO ((F.take i).drop f) = some x → 2 ≤ F.length → ∃ r, LnIs o r ∧ Ev (fun k => impl_multi.l0 k F ((i + 1 : Nat) : Int) ((i + 1 : Nat) : Int) 1 (os ++ [x]) true (⟨#[]⟩ : ByteArray)) r) :
    ∃ r, LnIs o r ∧ Ev (fun k => impl_multi.j1 k F f i false 1 os true (⟨#[]⟩ : ByteArray)) r := by
  refine Ex.step (fun k => by simp only [impl_multi.j1]; exact if_neg (by simp)) ?_
  by_cases c : f = i
  · subst c
    refine Ex.pos (by omega) ⟨(1, os, true, ⟨#[]⟩, [], false), ?_, Ev.now _⟩
    rw [hbad (by rw [List.drop_of_length_le (by rw [List.length_take]; omega)]; exact opO_nil)]; rfl
  · refine Ex.neg (by omega) (Ex.pos (by omega) (Ex.pos (by omega) (Ex.pos (by omega) ?_)))
    simp only [Int.toNat_natCast]
    obtain ⟨r, hr, er⟩ := implOp_ev ((F.take i).drop f) (by rw [List.length_drop, List.length_take]; omega) (by rw [List.length_drop, List.length_take]; omega) (fun x hx => hs x (List.mem_of_mem_take (List.mem_of_mem_drop hx)))
    refine Ex.bind er ?_
    have hw : wrap64 ((i : Int) + 1) = ((i + 1 : Nat) : Int) := by rw [w64 (by omega) (by omega)]; omega
    rw [hw]
    rcases hr.cases with ⟨h, ho⟩ | ⟨h, ho⟩
    · exact Ex.pos h (Ex.pos (by omega) (hgood _ ho (by omega)))
    · refine Ex.neg h ⟨(1, os, true, ⟨#[]⟩, [], false), ?_, Ev.now _⟩
      rw [hbad ho]; rfl
theorem implOps_l (F : List ByteArray) (hF : F.length ≤ 1048576) (hs : ∀ x ∈ F, x.size ≤ 1048576) (d : Nat) : ∀ (f i : Nat) (os : List S124), 1 ≤ f → f ≤ i → i + d = F.length → os.length ≤ i →
    ∃ r, LnIs ((opsO ((F.take i).drop f) (F.drop i)).map (fun xs => (1, os ++ xs, true, (⟨#[]⟩ : ByteArray), ([] : List Int)))) r ∧ Ev (fun k => impl_multi.l0 k F f i 1 os true (⟨#[]⟩ : ByteArray)) r := by
  induction d with
  | zero =>
    intro f i os h1 hf hi hos
    refine Ex.step (fun k => by simp only [impl_multi.l0]; rw [if_pos (by omega), if_neg (by omega)]) ?_
    rw [List.drop_of_length_le (l := F) (i := i) (by omega), opsO]
    refine implOps_j F hF hs f i h1 hf (by omega) os hos _ (fun h => by rw [h]; rfl) (fun x hx h2 => ?_)
    refine Ex.step (fun k => by simp only [impl_multi.l0]; exact if_neg (by omega)) ⟨_, ?_, Ev.now _⟩
    unfold LnIs
    rw [hx, decide_eq_true (by omega)]; rfl
  | succ d ih =>
    intro f i os h1 hf hi hos
    have hil : i < F.length := by omega
    have er : rdOf ByteArray.empty F (i : Int) = F[i] := by simp [rdOf, hil]
    rw [List.drop_eq_getElem_cons hil, opsO]
    refine Ex.step (fun k => by simp only [impl_multi.l0]; rw [if_pos (by omega), if_pos (by omega), if_pos (by omega), er]) ?_
    by_cases h : F[i].toList = ([59] : List UInt8)
    · rw [if_pos (show semi F[i] = true from beq_iff_eq.mpr h), show (F[i].toList != ([59] : List UInt8)) = false from bne_eq_false_iff_eq.mpr h]
      refine implOps_j F hF hs f i h1 hf (by omega) os hos _ (fun h => by rw [h]; rfl) (fun x hx h2 => ?_)
      obtain ⟨r, hr, er⟩ := ih (i + 1) (i + 1) (os ++ [x]) (by omega) (by omega) (by omega) (by simp; omega)
      refine ⟨r, ?_, er⟩
      rw [List.drop_of_length_le (l := F.take (i + 1)) (by rw [List.length_take]; omega)] at hr
      rw [hx]
      unfold LnIs at hr ⊢
      rw [hr]
      cases opsO [] (F.drop (i + 1)) <;> simp
    · rw [if_neg (show ¬ semi F[i] = true from fun hh => h (beq_iff_eq.mp hh)), show (F[i].toList != ([59] : List UInt8)) = true from bne_iff_ne.mpr h]
      have hw : wrap64 ((i : Int) + 1) = ((i + 1 : Nat) : Int) := by rw [w64 (by omega) (by omega)]; omega
      refine Ex.step (fun k => by simp only [impl_multi.j1]; rw [if_pos trivial, hw]) ?_
      have := ih f (i + 1) os h1 (by omega) (by omega) (by omega)
      rwa [List.take_add_one, List.getElem?_eq_getElem hil, List.drop_append_of_le_length (by rw [List.length_take]; omega)] at this
theorem implMulti_ev (F : List ByteArray) (hF : F.length ≤ 1048576) (h1 : 1 ≤ F.length) (hs : ∀ x ∈ F, x.size ≤ 1048576) : ∃ r, LnIs ((opsO [] (F.drop 1)).map (fun xs => (1, xs, true, (⟨#[]⟩ : ByteArray), ([] : List Int)))) r ∧ Ev (fun k => impl_multi.f k F) r := by
  have := implOps_l F hF hs (F.length - 1) 1 1 [] (by omega) (by omega) (by omega) (by simp)
  rw [List.drop_of_length_le (l := F.take 1) (by rw [List.length_take]; omega)] at this
  simp only [impl_multi.f]
  exact this
def numsR : List ByteArray → Option (List Int)
  | [] => some []
  | f :: t => (numO f).bind fun v => (numsR t).map (fun l => v :: l)
def nf (n : Nat) (o : Option (List Int)) : Option (List Int) := if n ≤ 2000 then o else none
def NmIs (o : Option (List Int)) (r : List Int × Bool) : Prop := (if r.2 = true then some r.1 else none) = o
theorem OkIs.cases {o : Option Int} {r : Int × Bool} (h : OkIs o r) : (r.2 = true ∧ o = some r.1) ∨ (¬ r.2 = true ∧ o = none) := by
  unfold OkIs at h
  by_cases c : r.2 = true
  · rw [if_pos c] at h; exact Or.inl ⟨c, h.symm⟩
  · rw [if_neg c] at h; exact Or.inr ⟨c, h.symm⟩
theorem NmIs.cases {o : Option (List Int)} {r : List Int × Bool} (h : NmIs o r) : (r.2 = true ∧ o = some r.1) ∨ (¬ r.2 = true ∧ o = none) := by
  unfold NmIs at h
  by_cases c : r.2 = true
  · rw [if_pos c] at h; exact Or.inl ⟨c, h.symm⟩
  · rw [if_neg c] at h; exact Or.inr ⟨c, h.symm⟩
theorem nf_none (n : Nat) : nf n none = none := by unfold nf; split <;> rfl
theorem nf_end (n : Nat) (l : List Int) : NmIs (nf n (some l)) (l, decide ((n : Int) ≤ 2000)) := by
  unfold NmIs nf
  by_cases c : n ≤ 2000
  · rw [decide_eq_true (by omega), if_pos c]; rfl
  · rw [decide_eq_false (by omega), if_neg c]; rfl
theorem map_cons (acc : List Int) (v : Int) (o : Option (List Int)) : (o.map (fun l => v :: l)).map (fun l => acc ++ l) = o.map (fun l => (acc ++ [v]) ++ l) := by cases o <;> simp
theorem specNums_l (F : List ByteArray) (hF : F.length ≤ 1048576) (hs : ∀ x ∈ F, x.size ≤ 1048576) (d : Nat) : ∀ (i : Nat) (acc : List Int), i + d = F.length → acc.length ≤ i →
    ∃ r, NmIs (nf F.length ((numsR (F.drop i)).map (fun l => acc ++ l))) r ∧ Ev (fun k => spec_l6Nums.l0 k F acc i) r := by
  induction d with
  | zero =>
    intro i acc hi ha
    rw [List.drop_of_length_le (by omega)]
    refine Ex.step (fun k => by simp only [spec_l6Nums.l0]; exact if_neg (by omega)) ⟨_, ?_, Ev.now _⟩
    simp only [numsR, Option.map_some, List.append_nil]
    exact nf_end _ _
  | succ d ih =>
    intro i acc hi ha
    have hil : i < F.length := by omega
    have er : rdOf ByteArray.empty F (i : Int) = F[i] := by simp [rdOf, hil]
    rw [List.drop_eq_getElem_cons hil, numsR]
    obtain ⟨r, hr, e⟩ := specNum_ev F[i] (hs _ (List.getElem_mem hil))
    refine Ex.step (fun k => by simp only [spec_l6Nums.l0]; rw [if_pos (by omega), if_pos (by omega), er, w64 (by omega) (by omega)]) (Ex.bind e ?_)
    rcases hr.cases with ⟨h, ho⟩ | ⟨h, ho⟩
    · rw [ho, Option.bind_some, map_cons]
      exact Ex.pos h (Ex.pos (by omega) (ih (i + 1) _ (by omega) (by simp; omega)))
    · rw [ho]
      exact Ex.neg h ⟨(acc, false), by show none = _; exact (nf_none _).symm, Ev.now _⟩
theorem specNums_ev (F : List ByteArray) (hF : F.length ≤ 1048576) (hs : ∀ x ∈ F, x.size ≤ 1048576) : ∃ r, NmIs (nf F.length (numsR F)) r ∧ Ev (fun k => spec_l6Nums.f k F) r := by
  have := specNums_l F hF hs F.length 0 [] (by omega) (by simp)
  simp only [spec_l6Nums.f]
  rw [List.drop_zero] at this
  simpa using this
theorem implNums_l (F : List ByteArray) (hF : F.length ≤ 1048576) (hs : ∀ x ∈ F, x.size ≤ 1048576) (d : Nat) : ∀ (i : Nat) (acc : List Int), i + d = F.length → acc.length = i →
    ∃ r, NmIs (nf F.length ((numsR (F.drop i)).map (fun l => acc ++ l))) r ∧ Ev (fun k => impl_numbers.l0 k acc F (F.length : Int) i) r := by
  induction d with
  | zero =>
    intro i acc hi ha
    rw [List.drop_of_length_le (by omega)]
    refine Ex.step (fun k => by simp only [impl_numbers.l0]; exact if_neg (by omega)) ⟨_, ?_, Ev.now _⟩
    simp only [numsR, Option.map_some, List.append_nil]
    rw [show acc.length = F.length by omega]
    exact nf_end _ _
  | succ d ih =>
    intro i acc hi ha
    have hil : i < F.length := by omega
    have er : rdOf ByteArray.empty F (i : Int) = F[i] := by simp [rdOf, hil]
    rw [List.drop_eq_getElem_cons hil, numsR]
    obtain ⟨r, hr, e⟩ := implNum_ev F[i] (hs _ (List.getElem_mem hil))
    refine Ex.step (fun k => by simp only [impl_numbers.l0]; rw [if_pos (by omega), if_pos (by omega), if_pos (by omega), er, w64 (by omega) (by omega)]) (Ex.bind e ?_)
    rcases hr.cases with ⟨h, ho⟩ | ⟨h, ho⟩
    · rw [ho, Option.bind_some, map_cons]
      exact Ex.pos h (Ex.pos (by omega) (ih (i + 1) _ (by omega) (by simp; omega)))
    · rw [ho]
      exact Ex.neg h ⟨([], false), by show none = _; exact (nf_none _).symm, Ev.now _⟩
theorem implNums_ev (F : List ByteArray) (hF : F.length ≤ 1048576) (hs : ∀ x ∈ F, x.size ≤ 1048576) : ∃ r, NmIs (nf F.length (numsR F)) r ∧ Ev (fun k => impl_numbers.f k F) r := by
  have := implNums_l F hF hs F.length 0 [] (by omega) (by simp)
  simp only [impl_numbers.f]
  rw [List.drop_zero] at this
  simpa using this
theorem numsR_len (F : List ByteArray) : ∀ l, numsR F = some l → l.length = F.length := by
  induction F with
  | nil => intro l h; obtain rfl := Option.some.inj h; rfl
  | cons f t ih =>
    intro l h
    rw [numsR] at h
    obtain ⟨v, _, h⟩ := Option.bind_eq_some_iff.1 h
    obtain ⟨m, hm, rfl⟩ := Option.map_eq_some_iff.1 h
    simp [ih m hm]
def ln (k : Int) : Int × List S124 × Bool × ByteArray × List Int := (k, [], false, ⟨#[]⟩, [])
def btw (v a b : Int) : Bool := decide (a ≤ v) && decide (v ≤ b)
theorem between_e (v a b : Int) : spec_l6Between.f v a b = some (btw v a b) := by
  unfold spec_l6Between.f btw
  by_cases c : v ≥ a
  · rw [if_pos c, decide_eq_true (show a ≤ v from c)]; rfl
  · rw [if_neg c, decide_eq_false (show ¬ a ≤ v from c)]; rfl
def n5 (F : List ByteArray) (l : List Int) : Option (Int × List S124 × Bool × ByteArray × List Int) :=
  if w0 F = [114, 111, 116] ∧ l.length = 3 ∧ btw (rd l 0) 0 1 = true ∧ btw (rd l 1) 0 4095 = true ∧ btw (rd l 2) 1 255 = true then some (10, [], false, ⟨#[]⟩, l) else none
def n4 (F : List ByteArray) (l : List Int) : Option (Int × List S124 × Bool × ByteArray × List Int) :=
  if w0 F = [99, 114, 97, 115, 104] then some (9, [], false, ⟨#[]⟩, l) else n5 F l
def n3 (F : List ByteArray) (l : List Int) : Option (Int × List S124 × Bool × ByteArray × List Int) :=
  if w0 F = [97, 114, 109] ∧ 1 ≤ l.length ∧ btw (rd l 0) 1 10000 = true then some (8, [], false, ⟨#[]⟩, l) else n4 F l
def n2 (F : List ByteArray) (l : List Int) : Option (Int × List S124 × Bool × ByteArray × List Int) :=
  if w0 F = [115, 116, 101, 112] ∧ l.length = 1 ∧ btw (rd l 0) 1 1000 = true then some (7, [], false, ⟨#[]⟩, l) else n3 F l
def lNum (F : List ByteArray) : Option (Int × List S124 × Bool × ByteArray × List Int) := (nf (F.drop 1).length (numsR (F.drop 1))).bind (n2 F)
def lList (F : List ByteArray) : Option (Int × List S124 × Bool × ByteArray × List Int) := if F.length = 2 ∧ w0 F = [108, 105, 115, 116] then some (4, [], false, rdOf ByteArray.empty F 1, []) else lNum F
def lGet (F : List ByteArray) : Option (Int × List S124 × Bool × ByteArray × List Int) := if F.length = 2 ∧ w0 F = [103, 101, 116] then some (3, [], false, rdOf ByteArray.empty F 1, []) else lList F
def lOne (F : List ByteArray) : Option (Int × List S124 × Bool × ByteArray × List Int) :=
  if F.length = 1 ∧ w0 F = [102, 108, 117, 115, 104] then some (ln 2) else if F.length = 1 ∧ w0 F = [100, 117, 109, 112] then some (ln 5) else if F.length = 1 ∧ w0 F = [115, 110, 97, 112] then some (ln 6) else if F.length = 1 ∧ w0 F = [114, 101, 99, 111, 118, 101, 114] then some (ln 11) else if F.length = 1 ∧ w0 F = [115, 116, 97, 116, 117, 115] then some (ln 12) else lGet F
def lOp (F : List ByteArray) : Option (Int × List S124 × Bool × ByteArray × List Int) := match opO F with
  | some o => some (1, [o], false, ⟨#[]⟩, [])
  | none => lOne F
/-- A line, read. -/
def lnO (F : List ByteArray) : Option (Int × List S124 × Bool × ByteArray × List Int) :=
  if w0 F = [109, 117, 108, 116, 105] then (opsO [] (F.drop 1)).map (fun xs => (1, xs, true, ⟨#[]⟩, [])) else lOp F
theorem sp_j4 (F : List ByteArray) (h1 : 1 ≤ F.length) (l : List Int) (b : Bool) (hb : b = true ↔ (w0 F = [97, 114, 109] ∧ 1 ≤ l.length ∧ btw (rd l 0) 1 10000 = true)) : Ev (fun k => spec_ParseLine.j4 k F l b) ((n3 F l).getD (ln 0)) := by
  refine Ev.step (fun k => by simp only [spec_ParseLine.j4]; rfl) ?_
  by_cases c : b = true
  · unfold n3
    rw [if_pos (hb.1 c)]
    exact Ev.pos c (Ev.now _)
  · unfold n3
    rw [if_neg (fun h => c (hb.2 h))]
    unfold n4
    refine Ev.neg c (Ev.pos (by omega) ?_)
    by_cases c1 : w0 F = [99, 114, 97, 115, 104]
    · rw [if_pos c1]; exact Ev.pos c1 (Ev.now _)
    rw [if_neg c1]
    refine Ev.neg c1 ?_
    by_cases c2 : w0 F = [114, 111, 116]
    · refine Ev.pos c2 ?_
      by_cases c3 : l.length = 3
      · refine Ev.pos (by omega) (Ev.pos (by omega) (Ev.bind (Ev.ofE (between_e _ _ _)) ?_))
        by_cases b0 : btw (rd l 0) 0 1 = true
        · refine Ev.pos b0 (Ev.pos (by omega) (Ev.bind (Ev.ofE (between_e _ _ _)) ?_))
          by_cases b1 : btw (rd l 1) 0 4095 = true
          · refine Ev.pos b1 (Ev.pos (by omega) (Ev.bind (Ev.ofE (between_e _ _ _)) ?_))
            by_cases b2 : btw (rd l 2) 1 255 = true
            · rw [show n5 F l = some (10, [], false, ⟨#[]⟩, l) from if_pos ⟨c2, c3, b0, b1, b2⟩]; exact Ev.pos b2 (Ev.now _)
            · rw [show n5 F l = none from if_neg (fun h => b2 h.2.2.2.2)]; exact Ev.neg b2 (Ev.now _)
          · rw [show n5 F l = none from if_neg (fun h => b1 h.2.2.2.1)]; exact Ev.neg b1 (Ev.now _)
        · rw [show n5 F l = none from if_neg (fun h => b0 h.2.2.1)]; exact Ev.neg b0 (Ev.now _)
      · rw [show n5 F l = none from if_neg (fun h => c3 h.2.1)]; exact Ev.neg (by omega) (Ev.now _)
    · rw [show n5 F l = none from if_neg (fun h => c2 h.1)]; exact Ev.neg c2 (Ev.now _)
theorem sp_j3 (F : List ByteArray) (h1 : 1 ≤ F.length) (l : List Int) (b : Bool) (hb : b = true ↔ (w0 F = [115, 116, 101, 112] ∧ l.length = 1 ∧ btw (rd l 0) 1 1000 = true)) : Ev (fun k => spec_ParseLine.j3 k F l b) ((n2 F l).getD (ln 0)) := by
  refine Ev.step (fun k => by simp only [spec_ParseLine.j3]; rfl) ?_
  by_cases c : b = true
  · unfold n2
    rw [if_pos (hb.1 c)]
    exact Ev.pos c (Ev.now _)
  · unfold n2
    rw [if_neg (fun h => c (hb.2 h))]
    refine Ev.neg c (Ev.pos (by omega) ?_)
    by_cases c1 : w0 F = [97, 114, 109]
    · refine Ev.pos c1 ?_
      by_cases c2 : (l.length : Int) ≥ 1
      · exact Ev.pos c2 (Ev.pos (by omega) (Ev.bind (Ev.ofE (between_e _ _ _)) (sp_j4 F h1 l _ ⟨fun h => ⟨c1, by omega, h⟩, fun h => h.2.2⟩)))
      · exact Ev.neg c2 (sp_j4 F h1 l false ⟨fun h => by simp at h, fun h => absurd h.2.1 (by omega)⟩)
    · exact Ev.neg c1 (sp_j4 F h1 l false ⟨fun h => by simp at h, fun h => absurd h.1 c1⟩)
theorem sp_j2 (F : List ByteArray) (h1 : 1 ≤ F.length) (hF : F.length ≤ 1048576) (hs : ∀ x ∈ F, x.size ≤ 1048576) (b : Bool) (hb : b = true ↔ (F.length = 2 ∧ w0 F = [108, 105, 115, 116])) : Ev (fun k => spec_ParseLine.j2 k F b) ((lList F).getD (ln 0)) := by
  refine Ev.step (fun k => by simp only [spec_ParseLine.j2]; rfl) ?_
  by_cases c : b = true
  · unfold lList
    rw [if_pos (hb.1 c)]
    have := hb.1 c
    exact Ev.pos c (Ev.pos (by omega) (Ev.now _))
  · rw [show lList F = lNum F from if_neg (fun h => c (hb.2 h))]
    obtain ⟨r, hr, er⟩ := specNums_ev (F.drop 1) (by rw [List.length_drop]; omega) (fun x hx => hs x (List.mem_of_mem_drop hx))
    refine Ev.neg c (Ev.pos (by omega) (Ev.bind er ?_))
    unfold lNum
    rcases hr.cases with ⟨h, ho⟩ | ⟨h, ho⟩
    · rw [ho, Option.bind_some]
      refine Ev.pos h (Ev.pos (by omega) ?_)
      by_cases c1 : w0 F = [115, 116, 101, 112]
      · refine Ev.pos c1 ?_
        by_cases c2 : (r.1.length : Int) = 1
        · exact Ev.pos c2 (Ev.pos (by omega) (Ev.bind (Ev.ofE (between_e _ _ _)) (sp_j3 F h1 r.1 _ ⟨fun h => ⟨c1, by omega, h⟩, fun h => h.2.2⟩)))
        · exact Ev.neg c2 (sp_j3 F h1 r.1 false ⟨fun h => by simp at h, fun h => absurd h.2.1 (by omega)⟩)
      · exact Ev.neg c1 (sp_j3 F h1 r.1 false ⟨fun h => by simp at h, fun h => absurd h.1 c1⟩)
    · rw [ho]
      exact Ev.neg h (Ev.now _)
theorem sp_j1 (F : List ByteArray) (h1 : 1 ≤ F.length) (hF : F.length ≤ 1048576) (hs : ∀ x ∈ F, x.size ≤ 1048576) (b : Bool) (hb : b = true ↔ (F.length = 2 ∧ w0 F = [103, 101, 116])) : Ev (fun k => spec_ParseLine.j1 k F b) ((lGet F).getD (ln 0)) := by
  refine Ev.step (fun k => by simp only [spec_ParseLine.j1]; rfl) ?_
  by_cases c : b = true
  · unfold lGet
    rw [if_pos (hb.1 c)]
    have := hb.1 c
    exact Ev.pos c (Ev.pos (by omega) (Ev.now _))
  · rw [show lGet F = lList F from if_neg (fun h => c (hb.2 h))]
    refine Ev.neg c ?_
    by_cases c1 : (F.length : Int) = 2
    · exact Ev.pos c1 (Ev.pos (by omega) (sp_j2 F h1 hF hs _ ⟨fun h => ⟨by omega, beq_iff_eq.mp h⟩, fun h => beq_iff_eq.mpr h.2⟩))
    · exact Ev.neg c1 (sp_j2 F h1 hF hs false ⟨fun h => by simp at h, fun h => absurd h.1 (by omega)⟩)
theorem sp_j0 (F : List ByteArray) (h1 : 1 ≤ F.length) (hF : F.length ≤ 1048576) (hs : ∀ x ∈ F, x.size ≤ 1048576) : Ev (fun k => spec_ParseLine.j0 k F) ((lGet F).getD (ln 0)) := by
  refine Ev.step (fun k => by simp only [spec_ParseLine.j0]; rfl) ?_
  by_cases c1 : (F.length : Int) = 2
  · exact Ev.pos c1 (Ev.pos (by omega) (sp_j1 F h1 hF hs _ ⟨fun h => ⟨by omega, beq_iff_eq.mp h⟩, fun h => beq_iff_eq.mpr h.2⟩))
  · exact Ev.neg c1 (sp_j1 F h1 hF hs false ⟨fun h => by simp at h, fun h => absurd h.1 (by omega)⟩)
/-- What a text of a line means. -/
def lineOf (l : List Int) : Int × List S124 × Bool × ByteArray × List Int := if l.length > 60000 then ln 0 else if (fieldsB (strOfNums l)).all okF = true then (lnO (fieldsB (strOfNums l))).getD (ln 0) else ln 0
theorem specLine_ev (l : List Int) (hl : l.length ≤ 1048576) (hb : ∀ x ∈ l, 0 ≤ x ∧ x ≤ 255) : Ev (fun k => spec_ParseLine.f k l) (lineOf l) := by
  simp only [spec_ParseLine.f]
  unfold lineOf
  by_cases c : l.length > 60000
  · rw [if_pos c]; exact Ev.pos (by omega) (Ev.now _)
  rw [if_neg c]
  refine Ev.neg (by omega) (Ev.bind (specFields_ev l (by omega) hb) ?_)
  by_cases ca : (fieldsB (strOfNums l)).all okF = true
  · rw [if_pos ca, if_pos ca]
    have hz := fieldsB_size (strOfNums l)
    have h1 := fieldsB_ne (strOfNums l)
    have h2 := fieldsB_len (strOfNums l)
    rw [strOfNums_size] at h2 hz
    generalize fieldsB (strOfNums l) = F at h1 h2 hz
    have hs : ∀ x ∈ F, x.size ≤ 1048576 := fun x hx => by have := hz x hx; omega
    refine Ev.neg (by omega) (Ev.pos (by omega) ?_)
    by_cases cm : w0 F = [109, 117, 108, 116, 105]
    · rw [show lnO F = _ from if_pos cm]
      obtain ⟨r, ⟨hr, _⟩, er⟩ := specOps_ev (F.drop 1) (by rw [List.length_drop]; omega) (fun x hx => hs x (List.mem_of_mem_drop hx))
      refine Ev.pos cm (Ev.pos (by omega) (Ev.bind er ?_))
      unfold OpsIs at hr
      by_cases h : r.2 = true
      · rw [if_pos h] at hr
        rw [← hr]
        exact Ev.pos h (Ev.now _)
      · rw [if_neg h] at hr
        rw [← hr]
        exact Ev.neg h (Ev.now _)
    · rw [show lnO F = lOp F from if_neg cm]
      obtain ⟨r, hr, er⟩ := specOp_ev F (by omega) hs
      refine Ev.neg cm (Ev.bind er ?_)
      unfold lOp
      rcases hr.cases with ⟨h, ho⟩ | ⟨h, ho⟩
      · rw [ho]; exact Ev.pos h (Ev.now _)
      · rw [ho]
        refine Ev.neg h ?_
        show Ev _ ((lOne F).getD (ln 0))
        by_cases hn : (F.length : Int) = 1
        · have hn' : F.length = 1 := by omega
          refine Ev.pos hn ?_
          unfold lOne
          simp only [hn', true_and]
          by_cases d0 : w0 F = [102, 108, 117, 115, 104]
          · rw [if_pos d0]; exact Ev.pos d0 (Ev.now _)
          rw [if_neg d0]; refine Ev.neg d0 ?_
          by_cases d1 : w0 F = [100, 117, 109, 112]
          · rw [if_pos d1]; exact Ev.pos d1 (Ev.now _)
          rw [if_neg d1]; refine Ev.neg d1 ?_
          by_cases d2 : w0 F = [115, 110, 97, 112]
          · rw [if_pos d2]; exact Ev.pos d2 (Ev.now _)
          rw [if_neg d2]; refine Ev.neg d2 ?_
          by_cases d3 : w0 F = [114, 101, 99, 111, 118, 101, 114]
          · rw [if_pos d3]; exact Ev.pos d3 (Ev.now _)
          rw [if_neg d3]; refine Ev.neg d3 ?_
          by_cases d4 : w0 F = [115, 116, 97, 116, 117, 115]
          · rw [if_pos d4]; exact Ev.pos d4 (Ev.now _)
          rw [if_neg d4]
          exact Ev.neg d4 (sp_j0 F h1 (by omega) hs)
        · refine Ev.neg hn ?_
          unfold lOne
          rw [if_neg (by omega), if_neg (by omega), if_neg (by omega), if_neg (by omega), if_neg (by omega)]
          exact sp_j0 F h1 (by omega) hs
  · rw [if_neg ca, if_neg ca]
    exact Ev.pos rfl (Ev.now _)
theorem iffE {α : Type} {p q : Prop} [Decidable p] [Decidable q] {a b : α} (h : p ↔ q) (_ : a = a) (_ : b = b) : (if p then a else b) = if q then a else b := by
  by_cases c : p
  · rw [if_pos c, if_pos (h.1 c)]
  · rw [if_neg c, if_neg (fun d => c (h.2 d))]
theorem implVis_l (F : List ByteArray) (i : Nat) (hi : i < F.length) (hF : F.length ≤ 1048576) (hs : F[i].size ≤ 1048576) (R : Int × List S124 × Bool × ByteArray × List Int) (h : Ev (fun k => impl_ParseLine.l0 k F F (F.length : Int) ((i + 1 : Nat) : Int)) R) (d : Nat) : ∀ j : Nat, j + d = F[i].size → Ev (fun k => impl_ParseLine.l1 k F F[i] F (F.length : Int) i (F[i].size : Int) j) (if ((F[i].data.toList.drop j).all vis && decide (F[i].size ≠ 0)) = true then R else ln 0) := by
  induction d with
  | zero =>
    intro j hj
    rw [List.drop_of_length_le (by rw [← Go.Lib.size_eq]; omega)]
    refine Ev.step (fun k => by simp only [impl_ParseLine.l1]; rw [if_neg (by omega), w64 (by omega) (by omega)]) ?_
    by_cases c : F[i].size = 0
    · rw [decide_eq_false (by omega)]
      have e : F[i].toList = ([] : List UInt8) := by
        rw [Go.Lib.toList_data]; rw [Go.Lib.size_eq] at c; exact List.length_eq_zero_iff.1 c
      exact Ev.pos e (Ev.now _)
    · rw [decide_eq_true (by omega)]
      have e : ¬ F[i].toList = ([] : List UInt8) := fun e => c (by rw [Go.Lib.toList_data] at e; rw [Go.Lib.size_eq, e]; rfl)
      exact Ev.neg e h
  | succ d ih =>
    intro j hj
    obtain ⟨b, hb, eb⟩ := bt_list F[i] j (by omega)
    rw [drop_cons _ j b hb, List.all_cons]
    refine Ev.step (fun k => by simp only [impl_ParseLine.l1]; rw [if_pos (by omega), if_pos (by omega), if_pos (by omega), eb, w64 (x := (j : Int) + 1) (by omega) (by omega)]) ?_
    by_cases h1 : (b.toNat : Int) < 33
    · rw [show vis b = false by simp [vis]; omega]
      exact Ev.pos h1 (Ev.now _)
    · refine Ev.neg h1 ?_
      by_cases h2 : (b.toNat : Int) > 126
      · rw [show vis b = false by simp [vis]; omega]
        exact Ev.pos h2 (Ev.now _)
      · rw [show vis b = true by simp [vis]; omega, Bool.true_and]
        exact Ev.neg h2 (ih (j + 1) (by omega))
theorem implFields_l (F : List ByteArray) (hF : F.length ≤ 1048576) (hs : ∀ x ∈ F, x.size ≤ 1048576) (R : Int × List S124 × Bool × ByteArray × List Int) (h : Ev (fun k => impl_ParseLine.l0 k F F (F.length : Int) (F.length : Int)) R) (d : Nat) : ∀ i : Nat, i + d = F.length → Ev (fun k => impl_ParseLine.l0 k F F (F.length : Int) i) (if (F.drop i).all okF = true then R else ln 0) := by
  induction d with
  | zero =>
    intro i hi
    obtain rfl : i = F.length := by omega
    rw [List.drop_of_length_le (by omega)]
    exact h
  | succ d ih =>
    intro i hi
    have hil : i < F.length := by omega
    have er : rdOf ByteArray.empty F (i : Int) = F[i] := by simp [rdOf, hil]
    rw [List.drop_eq_getElem_cons hil, List.all_cons]
    refine Ev.step (fun k => by simp only [impl_ParseLine.l0]; rw [if_pos (by omega), if_pos (by omega), if_pos (by omega), er]) ?_
    have := implVis_l F i hil hF (hs _ (List.getElem_mem hil)) _ (ih (i + 1) (by omega)) F[i].size 0 (by omega)
    rw [List.drop_zero] at this
    have e : (if (okF F[i] && (F.drop (i + 1)).all okF) = true then R else ln 0) = (if (F[i].data.toList.all vis && decide (F[i].size ≠ 0)) = true then (if (F.drop (i + 1)).all okF = true then R else ln 0) else ln 0) := by
      show (if ((F[i].data.toList.all vis && decide (F[i].size ≠ 0)) && (F.drop (i + 1)).all okF) = true then R else ln 0) = _
      generalize (F[i].data.toList.all vis && decide (F[i].size ≠ 0)) = a
      cases a <;> rfl
    rw [e]
    exact this
theorem inB_e (vs : List Int) (bs : List (Int × Int)) (i : Nat) : inB vs bs i = btw (vs.getD i 0) (bs.getD i (0, 0)).1 (bs.getD i (0, 0)).2 := by
  rw [Bool.eq_iff_iff]
  simp only [inB, btw, Bool.and_eq_true, Bool.not_eq_true', decide_eq_false_iff_not, decide_eq_true_eq]
  omega
def cL (kind : Int) (free : Bool) (bs : List (Int × Int)) (l : List Int) : Option (Int × List S124 × Bool × ByteArray × List Int) := if (cnt kind free bs l true).2.2 = true then some ((cnt kind free bs l true).1, [], false, ⟨#[]⟩, (cnt kind free bs l true).2.1) else none
theorem cL_e (kind : Int) (free : Bool) (bs : List (Int × Int)) (l : List Int) : cL kind free bs l = if (bs.length ≤ l.length ∧ (free = true ∨ l.length ≤ bs.length)) ∧ allB l bs bs.length = true then some (kind, [], false, ⟨#[]⟩, l) else none := by
  by_cases c : bs.length ≤ l.length ∧ (free = true ∨ l.length ≤ bs.length)
  · by_cases b : allB l bs bs.length = true
    · have hc : cnt kind free bs l true = (kind, l, true) := by unfold cnt; rw [if_pos ⟨rfl, c⟩, if_pos b]
      unfold cL; rw [hc]; exact (if_pos ⟨c, b⟩).symm
    · have hc : cnt kind free bs l true = (0, [], false) := by unfold cnt; rw [if_pos ⟨rfl, c⟩, if_neg b]
      unfold cL; rw [hc]; exact (if_neg (fun h => b h.2)).symm
  · have hc : cnt kind free bs l true = (0, [], false) := by unfold cnt; rw [if_neg (fun h => c h.2)]
    unfold cL; rw [hc]; exact (if_neg (fun h => c h.1)).symm
theorem cnt_no (kind : Int) (free : Bool) (bs : List (Int × Int)) (l : List Int) : cnt kind free bs l false = (0, [], false) := by unfold cnt; rw [if_neg (fun h => absurd h.1 (by simp))]
theorem cnt_ev (F : List ByteArray) (hF : F.length ≤ 1048576) (hs : ∀ x ∈ F, x.size ≤ 1048576) (kind : Int) (free : Bool) (bs : List (Int × Int)) (hl : lnO F = (nf (F.drop 1).length (numsR (F.drop 1))).bind (cL kind free bs)) : ∃ r, LnIs (lnO F) r ∧ Ev (fun k => cntF kind free bs k F) r := by
  obtain ⟨r, hr, er⟩ := implNums_ev (F.drop 1) (by rw [List.length_drop]; omega) (fun x hx => hs x (List.mem_of_mem_drop hx))
  refine ⟨_, ?_, Ev.bind er (Ev.now _)⟩
  rw [hl]
  rcases hr.cases with ⟨h, ho⟩ | ⟨h, ho⟩
  · rw [ho, h]; rfl
  · rw [ho, show r.2 = false by simpa using h, cnt_no]; rfl
theorem opO_not {F : List ByteArray} (h1 : w0 F ≠ [99, 114, 101, 97, 116, 101]) (h2 : w0 F ≠ [115, 101, 113]) (h3 : w0 F ≠ [115, 101, 116]) (h4 : w0 F ≠ [100, 101, 108, 101, 116, 101]) (h5 : w0 F ≠ [99, 104, 101, 99, 107]) : opO F = none := by
  have e : o1 F = none := by
    unfold o1 o2 o3 o4
    rw [if_neg (fun h => h1 h.2), if_neg (fun h => h2 h.2), if_neg (fun h => h3 h.2), if_neg (fun h => h4 h.2), if_neg (fun h => h5 h.2)]
  unfold opO
  rw [e]
  split <;> rfl
theorem lOne_op {F : List ByteArray} (hw : w0 F = [99, 114, 101, 97, 116, 101] ∨ w0 F = [115, 101, 113] ∨ w0 F = [115, 101, 116] ∨ w0 F = [100, 101, 108, 101, 116, 101] ∨ w0 F = [99, 104, 101, 99, 107]) : lOne F = none := by
  have hn : ∀ l, n2 F l = none := fun l => by
    unfold n2 n3 n4 n5
    rcases hw with h | h | h | h | h <;> simp [h]
  have e : lNum F = none := by
    unfold lNum
    cases nf (F.drop 1).length (numsR (F.drop 1)) with
    | none => rfl
    | some l => exact hn l
  unfold lOne lGet lList
  rw [e]
  rcases hw with h | h | h | h | h <;> simp [h]
theorem single_ev (F : List ByteArray) (hF : F.length ≤ 1048576) (h1 : 1 ≤ F.length) (hs : ∀ x ∈ F, x.size ≤ 1048576) (hw : w0 F = [99, 114, 101, 97, 116, 101] ∨ w0 F = [115, 101, 113] ∨ w0 F = [115, 101, 116] ∨ w0 F = [100, 101, 108, 101, 116, 101] ∨ w0 F = [99, 104, 101, 99, 107]) : ∃ r, LnIs (lnO F) r ∧ Ev (fun k => impl_single.f k F) r := by
  obtain ⟨r, hr, er⟩ := implOp_ev F hF h1 hs
  simp only [impl_single.f]
  refine ⟨_, ?_, Ev.bind er (Ev.now _)⟩
  have e : lnO F = lOp F := if_neg (by rcases hw with h | h | h | h | h <;> rw [h] <;> decide)
  rw [e]
  unfold lOp LnIs
  rcases hr.cases with ⟨h, ho⟩ | ⟨h, ho⟩
  · rw [ho, if_pos h]
  · rw [ho, if_neg h]
    exact (lOne_op hw).symm
theorem lnO_one {F : List ByteArray} (hm : w0 F ≠ [109, 117, 108, 116, 105]) (h1 : w0 F ≠ [99, 114, 101, 97, 116, 101]) (h2 : w0 F ≠ [115, 101, 113]) (h3 : w0 F ≠ [115, 101, 116]) (h4 : w0 F ≠ [100, 101, 108, 101, 116, 101]) (h5 : w0 F ≠ [99, 104, 101, 99, 107]) : lnO F = lOne F := by
  rw [show lnO F = lOp F from if_neg hm]
  unfold lOp
  rw [opO_not h1 h2 h3 h4 h5]
theorem lNum_none {F : List ByteArray} (h : ∀ l, n2 F l = none) : lNum F = none := by
  unfold lNum
  cases nf (F.drop 1).length (numsR (F.drop 1)) with
  | none => rfl
  | some l => exact h l
theorem lw_flush {F : List ByteArray} (hw : w0 F = [102, 108, 117, 115, 104]) : ∃ r, LnIs (lnO F) r ∧ Ev (fun k => bareF 2 k F) r := by
  refine ⟨_, ?_, Ev.now _⟩
  rw [lnO_one (by rw [hw]; decide) (by rw [hw]; decide) (by rw [hw]; decide) (by rw [hw]; decide) (by rw [hw]; decide) (by rw [hw]; decide)]
  have e : lNum F = none := lNum_none (fun l => by unfold n2 n3 n4 n5; simp [hw])
  unfold lOne lGet lList LnIs
  rw [e]
  by_cases c : F.length = 1
  · simp [hw, c, ln]
  · have c' : ((F.length : Int) == 1) = false := beq_eq_false_iff_ne.mpr (by omega)
    simp [hw, c, c']
theorem lw_get {F : List ByteArray} (hw : w0 F = [103, 101, 116]) : ∃ r, LnIs (lnO F) r ∧ Ev (fun k => pathF 3 k F) r := by
  rw [lnO_one (by rw [hw]; decide) (by rw [hw]; decide) (by rw [hw]; decide) (by rw [hw]; decide) (by rw [hw]; decide) (by rw [hw]; decide)]
  have e : lNum F = none := lNum_none (fun l => by unfold n2 n3 n4 n5; simp [hw])
  have e1 : lOne F = if F.length = 2 then some (3, [], false, rdOf ByteArray.empty F 1, []) else none := by
    unfold lOne lGet lList
    rw [e]
    by_cases c : F.length = 2 <;> simp [hw, c]
  rw [e1]
  by_cases c : F.length = 2
  · rw [if_pos c]
    exact ⟨(3, [], false, rdOf ByteArray.empty F 1, [], true), rfl, Ev.congr (fun k => show pathF _ k F = _ from if_pos c) (Ev.now _)⟩
  · rw [if_neg c]
    exact ⟨(0, [], false, ⟨#[]⟩, [], false), rfl, Ev.congr (fun k => show pathF _ k F = _ from if_neg c) (Ev.now _)⟩
theorem lw_list {F : List ByteArray} (hw : w0 F = [108, 105, 115, 116]) : ∃ r, LnIs (lnO F) r ∧ Ev (fun k => pathF 4 k F) r := by
  rw [lnO_one (by rw [hw]; decide) (by rw [hw]; decide) (by rw [hw]; decide) (by rw [hw]; decide) (by rw [hw]; decide) (by rw [hw]; decide)]
  have e : lNum F = none := lNum_none (fun l => by unfold n2 n3 n4 n5; simp [hw])
  have e1 : lOne F = if F.length = 2 then some (4, [], false, rdOf ByteArray.empty F 1, []) else none := by
    unfold lOne lGet lList
    rw [e]
    by_cases c : F.length = 2 <;> simp [hw, c]
  rw [e1]
  by_cases c : F.length = 2
  · rw [if_pos c]
    exact ⟨(4, [], false, rdOf ByteArray.empty F 1, [], true), rfl, Ev.congr (fun k => show pathF _ k F = _ from if_pos c) (Ev.now _)⟩
  · rw [if_neg c]
    exact ⟨(0, [], false, ⟨#[]⟩, [], false), rfl, Ev.congr (fun k => show pathF _ k F = _ from if_neg c) (Ev.now _)⟩
theorem lw_dump {F : List ByteArray} (hw : w0 F = [100, 117, 109, 112]) : ∃ r, LnIs (lnO F) r ∧ Ev (fun k => bareF 5 k F) r := by
  refine ⟨_, ?_, Ev.now _⟩
  rw [lnO_one (by rw [hw]; decide) (by rw [hw]; decide) (by rw [hw]; decide) (by rw [hw]; decide) (by rw [hw]; decide) (by rw [hw]; decide)]
  have e : lNum F = none := lNum_none (fun l => by unfold n2 n3 n4 n5; simp [hw])
  unfold lOne lGet lList LnIs
  rw [e]
  by_cases c : F.length = 1
  · simp [hw, c, ln]
  · have c' : ((F.length : Int) == 1) = false := beq_eq_false_iff_ne.mpr (by omega)
    simp [hw, c, c']
theorem lw_snap {F : List ByteArray} (hw : w0 F = [115, 110, 97, 112]) : ∃ r, LnIs (lnO F) r ∧ Ev (fun k => bareF 6 k F) r := by
  refine ⟨_, ?_, Ev.now _⟩
  rw [lnO_one (by rw [hw]; decide) (by rw [hw]; decide) (by rw [hw]; decide) (by rw [hw]; decide) (by rw [hw]; decide) (by rw [hw]; decide)]
  have e : lNum F = none := lNum_none (fun l => by unfold n2 n3 n4 n5; simp [hw])
  unfold lOne lGet lList LnIs
  rw [e]
  by_cases c : F.length = 1
  · simp [hw, c, ln]
  · have c' : ((F.length : Int) == 1) = false := beq_eq_false_iff_ne.mpr (by omega)
    simp [hw, c, c']
theorem lw_step {F : List ByteArray} (hF : F.length ≤ 1048576) (hs : ∀ x ∈ F, x.size ≤ 1048576) (hw : w0 F = [115, 116, 101, 112]) : ∃ r, LnIs (lnO F) r ∧ Ev (fun k => cntF 7 false [(1, 1000)] k F) r := by
  refine cnt_ev F hF hs 7 false [(1, 1000)] ?_
  rw [lnO_one (by rw [hw]; decide) (by rw [hw]; decide) (by rw [hw]; decide) (by rw [hw]; decide) (by rw [hw]; decide) (by rw [hw]; decide)]
  have e1 : lOne F = lNum F := by unfold lOne lGet lList; simp [hw]
  rw [e1]
  unfold lNum
  congr 1
  funext l
  rw [cL_e]
  unfold n2 n3 n4 n5
  simp [hw, allB, inB_e, rd]
  exact iffE ⟨fun h => ⟨by omega, h.2⟩, fun h => ⟨by omega, h.2⟩⟩ rfl rfl
theorem lw_arm {F : List ByteArray} (hF : F.length ≤ 1048576) (hs : ∀ x ∈ F, x.size ≤ 1048576) (hw : w0 F = [97, 114, 109]) : ∃ r, LnIs (lnO F) r ∧ Ev (fun k => cntF 8 true [(1, 10000)] k F) r := by
  refine cnt_ev F hF hs 8 true [(1, 10000)] ?_
  rw [lnO_one (by rw [hw]; decide) (by rw [hw]; decide) (by rw [hw]; decide) (by rw [hw]; decide) (by rw [hw]; decide) (by rw [hw]; decide)]
  have e1 : lOne F = lNum F := by unfold lOne lGet lList; simp [hw]
  rw [e1]
  unfold lNum
  congr 1
  funext l
  rw [cL_e]
  unfold n2 n3 n4 n5
  simp [hw, allB, inB_e, rd]
theorem lw_crash {F : List ByteArray} (hF : F.length ≤ 1048576) (hs : ∀ x ∈ F, x.size ≤ 1048576) (hw : w0 F = [99, 114, 97, 115, 104]) : ∃ r, LnIs (lnO F) r ∧ Ev (fun k => cntF 9 true [] k F) r := by
  refine cnt_ev F hF hs 9 true [] ?_
  rw [lnO_one (by rw [hw]; decide) (by rw [hw]; decide) (by rw [hw]; decide) (by rw [hw]; decide) (by rw [hw]; decide) (by rw [hw]; decide)]
  have e1 : lOne F = lNum F := by unfold lOne lGet lList; simp [hw]
  rw [e1]
  unfold lNum
  congr 1
  funext l
  rw [cL_e]
  unfold n2 n3 n4 n5
  simp [hw, allB, inB_e, rd]
theorem lw_rot {F : List ByteArray} (hF : F.length ≤ 1048576) (hs : ∀ x ∈ F, x.size ≤ 1048576) (hw : w0 F = [114, 111, 116]) : ∃ r, LnIs (lnO F) r ∧ Ev (fun k => cntF 10 false [(0, 1), (0, 4095), (1, 255)] k F) r := by
  refine cnt_ev F hF hs 10 false [(0, 1), (0, 4095), (1, 255)] ?_
  rw [lnO_one (by rw [hw]; decide) (by rw [hw]; decide) (by rw [hw]; decide) (by rw [hw]; decide) (by rw [hw]; decide) (by rw [hw]; decide)]
  have e1 : lOne F = lNum F := by unfold lOne lGet lList; simp [hw]
  rw [e1]
  unfold lNum
  congr 1
  funext l
  rw [cL_e]
  unfold n2 n3 n4 n5
  simp [hw, allB, inB_e, rd]
  exact iffE ⟨fun h => ⟨by omega, ⟨h.2.1, h.2.2.1⟩, h.2.2.2⟩, fun h => ⟨by omega, h.2.1.1, h.2.1.2, h.2.2⟩⟩ rfl rfl
theorem lw_recover {F : List ByteArray} (hw : w0 F = [114, 101, 99, 111, 118, 101, 114]) : ∃ r, LnIs (lnO F) r ∧ Ev (fun k => bareF 11 k F) r := by
  refine ⟨_, ?_, Ev.now _⟩
  rw [lnO_one (by rw [hw]; decide) (by rw [hw]; decide) (by rw [hw]; decide) (by rw [hw]; decide) (by rw [hw]; decide) (by rw [hw]; decide)]
  have e : lNum F = none := lNum_none (fun l => by unfold n2 n3 n4 n5; simp [hw])
  unfold lOne lGet lList LnIs
  rw [e]
  by_cases c : F.length = 1
  · simp [hw, c, ln]
  · have c' : ((F.length : Int) == 1) = false := beq_eq_false_iff_ne.mpr (by omega)
    simp [hw, c, c']
theorem lw_status {F : List ByteArray} (hw : w0 F = [115, 116, 97, 116, 117, 115]) : ∃ r, LnIs (lnO F) r ∧ Ev (fun k => bareF 12 k F) r := by
  refine ⟨_, ?_, Ev.now _⟩
  rw [lnO_one (by rw [hw]; decide) (by rw [hw]; decide) (by rw [hw]; decide) (by rw [hw]; decide) (by rw [hw]; decide) (by rw [hw]; decide)]
  have e : lNum F = none := lNum_none (fun l => by unfold n2 n3 n4 n5; simp [hw])
  unfold lOne lGet lList LnIs
  rw [e]
  by_cases c : F.length = 1
  · simp [hw, c, ln]
  · have c' : ((F.length : Int) == 1) = false := beq_eq_false_iff_ne.mpr (by omega)
    simp [hw, c, c']
theorem prs_ex (F : List ByteArray) (hF : F.length ≤ 1048576) (h1 : 1 ≤ F.length) (hs : ∀ x ∈ F, x.size ≤ 1048576) : (∃ f, YtfiojiokmkiflaaDoorH.aget prsL (rdOf ByteArray.empty F 0) = some f ∧ ∃ r, LnIs (lnO F) r ∧ Ev (fun k => f k F) r) ∨ (YtfiojiokmkiflaaDoorH.aget prsL (rdOf ByteArray.empty F 0) = none ∧ lnO F = none) := by
  have k := fun l => key_eq l (rdOf ByteArray.empty F 0)
  unfold prsL
  simp only [YtfiojiokmkiflaaDoorH.aget_aset]
  by_cases c0 : (rdOf ByteArray.empty F 0).toList = [115, 116, 97, 116, 117, 115]
  · exact Or.inl ⟨_, by rw [if_pos ((k _).2 c0)], lw_status c0⟩
  rw [if_neg (fun h => c0 ((k _).1 h))]
  by_cases c1 : (rdOf ByteArray.empty F 0).toList = [114, 101, 99, 111, 118, 101, 114]
  · exact Or.inl ⟨_, by rw [if_pos ((k _).2 c1)], lw_recover c1⟩
  rw [if_neg (fun h => c1 ((k _).1 h))]
  by_cases c2 : (rdOf ByteArray.empty F 0).toList = [114, 111, 116]
  · exact Or.inl ⟨_, by rw [if_pos ((k _).2 c2)], lw_rot hF hs c2⟩
  rw [if_neg (fun h => c2 ((k _).1 h))]
  by_cases c3 : (rdOf ByteArray.empty F 0).toList = [99, 114, 97, 115, 104]
  · exact Or.inl ⟨_, by rw [if_pos ((k _).2 c3)], lw_crash hF hs c3⟩
  rw [if_neg (fun h => c3 ((k _).1 h))]
  by_cases c4 : (rdOf ByteArray.empty F 0).toList = [97, 114, 109]
  · exact Or.inl ⟨_, by rw [if_pos ((k _).2 c4)], lw_arm hF hs c4⟩
  rw [if_neg (fun h => c4 ((k _).1 h))]
  by_cases c5 : (rdOf ByteArray.empty F 0).toList = [115, 116, 101, 112]
  · exact Or.inl ⟨_, by rw [if_pos ((k _).2 c5)], lw_step hF hs c5⟩
  rw [if_neg (fun h => c5 ((k _).1 h))]
  by_cases c6 : (rdOf ByteArray.empty F 0).toList = [115, 110, 97, 112]
  · exact Or.inl ⟨_, by rw [if_pos ((k _).2 c6)], lw_snap c6⟩
  rw [if_neg (fun h => c6 ((k _).1 h))]
  by_cases c7 : (rdOf ByteArray.empty F 0).toList = [100, 117, 109, 112]
  · exact Or.inl ⟨_, by rw [if_pos ((k _).2 c7)], lw_dump c7⟩
  rw [if_neg (fun h => c7 ((k _).1 h))]
  by_cases c8 : (rdOf ByteArray.empty F 0).toList = [108, 105, 115, 116]
  · exact Or.inl ⟨_, by rw [if_pos ((k _).2 c8)], lw_list c8⟩
  rw [if_neg (fun h => c8 ((k _).1 h))]
  by_cases c9 : (rdOf ByteArray.empty F 0).toList = [103, 101, 116]
  · exact Or.inl ⟨_, by rw [if_pos ((k _).2 c9)], lw_get c9⟩
  rw [if_neg (fun h => c9 ((k _).1 h))]
  by_cases c10 : (rdOf ByteArray.empty F 0).toList = [102, 108, 117, 115, 104]
  · exact Or.inl ⟨_, by rw [if_pos ((k _).2 c10)], lw_flush c10⟩
  rw [if_neg (fun h => c10 ((k _).1 h))]
  by_cases c11 : (rdOf ByteArray.empty F 0).toList = [109, 117, 108, 116, 105]
  · exact Or.inl ⟨_, by rw [if_pos ((k _).2 c11)], (by rw [show lnO F = (opsO [] (F.drop 1)).map (fun xs => (1, xs, true, ⟨#[]⟩, [])) from if_pos c11]; exact implMulti_ev F hF h1 hs)⟩
  rw [if_neg (fun h => c11 ((k _).1 h))]
  by_cases c12 : (rdOf ByteArray.empty F 0).toList = [99, 104, 101, 99, 107]
  · exact Or.inl ⟨_, by rw [if_pos ((k _).2 c12)], single_ev F hF h1 hs (by simp [show w0 F = [99, 104, 101, 99, 107] from c12])⟩
  rw [if_neg (fun h => c12 ((k _).1 h))]
  by_cases c13 : (rdOf ByteArray.empty F 0).toList = [115, 101, 116]
  · exact Or.inl ⟨_, by rw [if_pos ((k _).2 c13)], single_ev F hF h1 hs (by simp [show w0 F = [115, 101, 116] from c13])⟩
  rw [if_neg (fun h => c13 ((k _).1 h))]
  by_cases c14 : (rdOf ByteArray.empty F 0).toList = [100, 101, 108, 101, 116, 101]
  · exact Or.inl ⟨_, by rw [if_pos ((k _).2 c14)], single_ev F hF h1 hs (by simp [show w0 F = [100, 101, 108, 101, 116, 101] from c14])⟩
  rw [if_neg (fun h => c14 ((k _).1 h))]
  by_cases c15 : (rdOf ByteArray.empty F 0).toList = [115, 101, 113]
  · exact Or.inl ⟨_, by rw [if_pos ((k _).2 c15)], single_ev F hF h1 hs (by simp [show w0 F = [115, 101, 113] from c15])⟩
  rw [if_neg (fun h => c15 ((k _).1 h))]
  by_cases c16 : (rdOf ByteArray.empty F 0).toList = [99, 114, 101, 97, 116, 101]
  · exact Or.inl ⟨_, by rw [if_pos ((k _).2 c16)], single_ev F hF h1 hs (by simp [show w0 F = [99, 114, 101, 97, 116, 101] from c16])⟩
  rw [if_neg (fun h => c16 ((k _).1 h))]
  refine Or.inr ⟨rfl, ?_⟩
  rw [lnO_one c11 c16 c15 c13 c14 c12]
  have e : lNum F = none := lNum_none (fun l => by
    unfold n2 n3 n4 n5
    rw [if_neg (fun h => c5 h.1), if_neg (fun h => c4 h.1), if_neg (show ¬ w0 F = _ from c3), if_neg (fun h => c2 h.1)])
  unfold lOne lGet lList
  rw [e, if_neg (fun h => c10 h.2), if_neg (fun h => c7 h.2), if_neg (fun h => c6 h.2), if_neg (fun h => c1 h.2), if_neg (fun h => c0 h.2), if_neg (fun h => c9 h.2), if_neg (fun h => c8 h.2)]
theorem implEnd_ev (F : List ByteArray) (hF : F.length ≤ 1048576) (h1 : 1 ≤ F.length) (hs : ∀ x ∈ F, x.size ≤ 1048576) : Ev (fun k => impl_ParseLine.l0 k F F (F.length : Int) (F.length : Int)) ((lnO F).getD (ln 0)) := by
  refine Ev.step (fun k => by simp only [impl_ParseLine.l0]; rw [if_neg (by omega), if_pos (by omega), strconv_syntaxError.f, Option.bind_some]) ?_
  rcases prs_ex F hF h1 hs with ⟨f, hf, r, hr, er⟩ | ⟨hf, hl⟩
  · rw [hf]
    refine Ev.pos rfl ?_
    have e : Ev (fun k => strconv_rangeError.f k F) r := Ev.congr (fun k => by unfold strconv_rangeError.f; rw [if_pos h1, hf]) er
    refine Ev.bind e ?_
    unfold LnIs at hr
    by_cases c : r.2.2.2.2.2 = true
    · rw [if_pos c] at hr
      rw [← hr]
      exact Ev.pos c (Ev.now _)
    · rw [if_neg c] at hr
      rw [← hr]
      exact Ev.neg c (Ev.now _)
  · rw [hf, hl]
    exact Ev.neg (by simp) (Ev.now _)
theorem implLine_ev (l : List Int) (hl : l.length ≤ 1048576) : Ev (fun k => impl_ParseLine.f k l) (lineOf l) := by
  simp only [impl_ParseLine.f]
  unfold lineOf
  by_cases c : l.length > 60000
  · rw [if_pos c]; exact Ev.pos (by omega) (Ev.now _)
  rw [if_neg c]
  have hz := fieldsB_size (strOfNums l)
  have h1 := fieldsB_ne (strOfNums l)
  have h2 := fieldsB_len (strOfNums l)
  refine Ev.neg (by omega) (Ev.bind (Ev.ofE (implCut (strOfNums l) (by rw [strOfNums_size]; omega))) ?_)
  rw [strOfNums_size] at h2 hz
  generalize fieldsB (strOfNums l) = F at h1 h2 hz
  have hs : ∀ x ∈ F, x.size ≤ 1048576 := fun x hx => by have := hz x hx; omega
  have := implFields_l F (by omega) hs _ (implEnd_ev F (by omega) h1 hs) F.length 0 (by omega)
  rw [List.drop_zero] at this
  exact this
theorem nums_size1 (x : Int) : (strOfNums [x]).size = 1 := rfl
theorem markText_l (n : Nat) : ∀ (a : Nat) (x : ByteArray), a < 10 ^ n → n ≤ 1000 → a ≤ 4611686018427387904 → x.size + n ≤ 1000000 → ∃ r : ByteArray, True ∧ Ev (fun k => laws_markText.l0 k a x) r := by
  induction n with
  | zero =>
    intro a x ha _ _ hx
    obtain rfl : a = 0 := by simpa using ha
    exact Ex.step (fun k => by simp only [laws_markText.l0]; rw [if_neg (by omega), if_pos (by omega)]) ⟨_, trivial, Ev.now _⟩
  | succ n ih =>
    intro a x ha hn ha2 hx
    by_cases h0 : a = 0
    · subst h0
      exact Ex.step (fun k => by simp only [laws_markText.l0]; rw [if_neg (by omega), if_pos (by omega)]) ⟨_, trivial, Ev.now _⟩
    · refine Ex.step (fun k => by simp only [laws_markText.l0, Option.bind_some]; rw [if_pos (by omega), show Int.tdiv (a : Int) 10 = ((a / 10 : Nat) : Int) from rfl, w64 (x := ((a / 10 : Nat) : Int)) (by omega) (by omega)]) ?_
      refine Ex.pos (by rw [nums_size1]; omega) ?_
      refine ih (a / 10) _ (by rw [Nat.pow_succ] at ha; omega) (by omega) (by omega) ?_
      rw [ByteArray.size_append, nums_size1]; omega
theorem markText_ev (a : Int) (h0 : 0 ≤ a) (h1 : a ≤ 4611686018427387904) : ∃ r : ByteArray, True ∧ Ev (fun k => laws_markText.f k a) r := by
  simp only [laws_markText.f]
  by_cases h : a ≤ 0
  · exact Ex.pos h ⟨_, trivial, Ev.now _⟩
  · refine Ex.neg h ?_
    obtain ⟨n, rfl⟩ := Int.eq_ofNat_of_zero_le h0
    refine markText_l 19 n _ (by omega) (by omega) (by omega) ?_
    show 0 + 19 ≤ _
    omega
theorem eqInt64S_l (x : List Int) (hl : x.length ≤ 281474976710656) (d : Nat) : ∀ (i : Nat), i + d = x.length → Ev (fun k => laws_eqInt64S.l0 k x x i) true := by
  induction d with
  | zero => intro i hi; exact Ev.step (fun k => by simp only [laws_eqInt64S.l0]; exact if_neg (by omega)) (Ev.now _)
  | succ d ih =>
    intro i hi
    refine Ev.step (fun k => by simp only [laws_eqInt64S.l0]; rw [if_pos (by omega), if_pos (by omega), if_pos (by omega), if_pos trivial, w64 (by omega) (by omega)]) ?_
    exact ih (i + 1) (by omega)
theorem eqInt64S_ev (l : List Int) (hl : l.length ≤ 281474976710656) : Ev (fun k => laws_eqInt64S.f k l l) true := by
  simp only [laws_eqInt64S.f]
  exact Ev.pos trivial (eqInt64S_l l hl l.length 0 (by omega))
theorem mtext_ex : ∃ M : Int → ByteArray, ∀ a, 0 ≤ a → a ≤ 4611686018427387904 → Ev (fun k => laws_markText.f k a) (M a) := by
  refine ⟨fun a => if h : 0 ≤ a ∧ a ≤ 4611686018427387904 then Classical.choose (markText_ev a h.1 h.2) else ByteArray.empty, fun a h0 h1 => ?_⟩
  simp only [dif_pos (And.intro h0 h1)]
  exact (Classical.choose_spec (markText_ev a h0 h1)).2
def mkO (M : Int → ByteArray) (a : Int) : S124 := ⟨a, M (a + 1), M (a + 1 + 1), a + 1 + 1 + 1, Int.tmod (a + 1 + 1 + 1 + 1) 3 == 0⟩
def mkOL (M : Int → ByteArray) (n : Nat) : List S124 := (List.range n).map fun j => mkO M (1 + 5 * (j : Nat))
theorem w6 (a : Int) (i : Nat) (h0 : 0 ≤ a) (h1 : a ≤ 1000000000000000) (hi : i ≤ 281474976710656) : wrap64 (a + 1) = a + 1 ∧ wrap64 (a + 1 + 1) = a + 1 + 1 ∧ wrap64 (a + 1 + 1 + 1) = a + 1 + 1 + 1 ∧ wrap64 (a + 1 + 1 + 1 + 1) = a + 1 + 1 + 1 + 1 ∧ wrap64 (a + 1 + 1 + 1 + 1 + 1) = a + 1 + 1 + 1 + 1 + 1 ∧ wrap64 ((i : Int) + 1) = ((i + 1 : Nat) : Int) :=
  ⟨w64 (by omega) (by omega), w64 (by omega) (by omega), w64 (by omega) (by omega), w64 (by omega) (by omega), w64 (by omega) (by omega), w64 (by omega) (by omega)⟩
theorem markOpS_x (M : Int → ByteArray) (hM : ∀ a, 0 ≤ a → a ≤ 4611686018427387904 → Ev (fun k => laws_markText.f k a) (M a)) (n : Nat) (hn : n ≤ 10000000) (d : Nat) : ∀ (i : Nat) (x : List S124) (a : Int), i + d = n → x.length = n → a = 1 + 5 * (i : Int) → (∀ j, j < i → x[j]? = some (mkO M (1 + 5 * (j : Int)))) → Ev (fun k => laws_markOpS.l0 k x a i) (1 + 5 * (n : Int), mkOL M n) := by
  induction d with
  | zero =>
    intro i x a hi hx ha hq
    have e : x = mkOL M n := by
      apply List.ext_getElem?
      intro j
      by_cases hj : j < n
      · rw [hq j (by omega)]
        simp [mkOL, hj]
      · rw [List.getElem?_eq_none (by omega), List.getElem?_eq_none (by simp [mkOL]; omega)]
    rw [← e, show 1 + 5 * (n : Int) = a by omega]
    exact Ev.step (fun k => by simp only [laws_markOpS.l0]; exact if_neg (by omega)) (Ev.now _)
  | succ d ih =>
    intro i x a hi hx ha hq
    have hlt : i < x.length := by omega
    have hrd : ∀ v, rd_T124 (x.set i v) (i : Int) = v := fun v => by simp [rd_T124, hlt]
    have g1 : (i : Int) < (x.length : Int) := by omega
    have g2 : 0 ≤ (i : Int) := by omega
    have m1 := hM (a + 1) (by omega) (by omega)
    have m2 := hM (a + 1 + 1) (by omega) (by omega)
    have fin := ih (i + 1) (x.set i (mkO M a)) (a + 1 + 1 + 1 + 1 + 1) (by omega) (by rw [List.length_set, hx]) (by omega) (fun j hj => by
      by_cases hji : j = i
      · subst hji
        rw [List.getElem?_set_self hlt, ha]
      · rw [List.getElem?_set_ne (Ne.symm hji)]
        exact hq j (by omega))
    obtain ⟨w1, w2, w3, w4, w5, w6⟩ := w6 a i (by omega) (by omega) (by omega)
    refine Ev.step (fun k => by rw [laws_markOpS.l0, if_pos g1, if_pos g2]) ?_
    rw [w1, w2, w3, w4, w5, w6]
    clear w1 w2 w3 w4 w5 w6
    refine Ev.bindS rfl ?_
    simp only [Int.toNat_natCast]
    refine Ev.bind m1 (Ev.bindS rfl ?_)
    simp only [hrd, List.set_set]
    refine Ev.bind m2 (Ev.bindS rfl ?_)
    simp only [hrd, List.set_set]
    refine Ev.bindS rfl ?_
    simp only [hrd, List.set_set]
    exact fin
theorem heldOpS_x (M : Int → ByteArray) (hM : ∀ a, 0 ≤ a → a ≤ 4611686018427387904 → Ev (fun k => laws_markText.f k a) (M a)) (n : Nat) (hn : n ≤ 10000000) (d : Nat) : ∀ (i : Nat) (a : Int), i + d = n → a = 1 + 5 * (i : Int) → Ev (fun k => laws_heldOpS.l0 k (mkOL M n) a i) (1 + 5 * (n : Int)) := by
  have hl : (mkOL M n).length = n := by simp [mkOL]
  induction d with
  | zero =>
    intro i a hi ha
    rw [show 1 + 5 * (n : Int) = a by omega]
    exact Ev.step (fun k => by simp only [laws_heldOpS.l0]; exact if_neg (by omega)) (Ev.now _)
  | succ d ih =>
    intro i a hi ha
    have hrd : rd_T124 (mkOL M n) (i : Int) = mkO M a := by
      rw [ha]
      simp [rd_T124, mkOL, show i < n by omega]
    have g1 : (i : Int) < ((mkOL M n).length : Int) := by omega
    have g2 : 0 ≤ (i : Int) := by omega
    have m1 := hM (a + 1) (by omega) (by omega)
    have m2 := hM (a + 1 + 1) (by omega) (by omega)
    have fin := ih (i + 1) (a + 1 + 1 + 1 + 1 + 1) (by omega) (by omega)
    obtain ⟨w1, w2, w3, w4, w5, w6⟩ := w6 a i (by omega) (by omega) (by omega)
    refine Ev.step (fun k => by rw [laws_heldOpS.l0, if_pos g1, if_pos g2]) ?_
    rw [w1, w2, w3, w4, w5, w6, hrd]
    clear w1 w2 w3 w4 w5 w6
    simp only [mkO]
    exact Ev.pos (by trivial) (Ev.bind m1 (Ev.pos (by trivial) (Ev.bind m2 (Ev.pos (by trivial) (Ev.pos (by trivial) (Ev.neg (by simp) fin))))))
def mkI (a : Int) (n : Nat) : List Int := (List.range n).map fun i : Nat => a + (i : Int)
theorem markI_x (a : Int) (h0 : 0 ≤ a) (h1 : a ≤ 1000000000000000) (n : Nat) (hn : n ≤ 10000000) (d : Nat) : ∀ (i : Nat) (x : List Int), i + d = n → x.length = n → (∀ j, j < i → x[j]? = some (a + (j : Int))) → Ev (fun k => laws_markInt64S.l0 k x (a + (i : Int)) i) (a + (n : Int), mkI a n) := by
  induction d with
  | zero =>
    intro i x hi hx hq
    have e : x = mkI a n := by
      apply List.ext_getElem?
      intro j
      by_cases hj : j < n
      · rw [hq j (by omega)]
        simp [mkI, hj]
      · rw [List.getElem?_eq_none (by omega), List.getElem?_eq_none (by simp [mkI]; omega)]
    rw [← e, show (n : Int) = (i : Int) by omega]
    exact Ev.step (fun k => by simp only [laws_markInt64S.l0]; exact if_neg (by omega)) (Ev.now _)
  | succ d ih =>
    intro i x hi hx hq
    have fin := ih (i + 1) (x.set i (a + (i : Int))) (by omega) (by rw [List.length_set, hx]) (fun j hj => by
      by_cases hji : j = i
      · subst hji
        rw [List.getElem?_set_self (by omega)]
      · rw [List.getElem?_set_ne (Ne.symm hji)]
        exact hq j (by omega))
    refine Ev.step (fun k => by simp only [laws_markInt64S.l0]; rw [if_pos (by omega), if_pos (by omega), w64 (x := a + (i : Int) + 1) (by omega) (by omega), w64 (x := (i : Int) + 1) (by omega) (by omega), Int.toNat_natCast]) ?_
    rw [show a + (i : Int) + 1 = a + ((i + 1 : Nat) : Int) by omega]
    exact fin
theorem heldI_x (a : Int) (h0 : 0 ≤ a) (h1 : a ≤ 1000000000000000) (n : Nat) (hn : n ≤ 10000000) (d : Nat) : ∀ (i : Nat), i + d = n → Ev (fun k => laws_heldInt64S.l0 k (mkI a n) (a + (i : Int)) i) (a + (n : Int)) := by
  have hl : (mkI a n).length = n := by simp [mkI]
  induction d with
  | zero =>
    intro i hi
    rw [show (n : Int) = (i : Int) by omega]
    exact Ev.step (fun k => by simp only [laws_heldInt64S.l0]; exact if_neg (by omega)) (Ev.now _)
  | succ d ih =>
    intro i hi
    have hrd : rd (mkI a n) (i : Int) = a + (i : Int) := by simp [rd, mkI, show i < n by omega]
    have fin := ih (i + 1) (by omega)
    refine Ev.step (fun k => by simp only [laws_heldInt64S.l0]; rw [if_pos (by omega), if_pos (by omega), if_pos hrd, w64 (x := a + (i : Int) + 1) (by omega) (by omega), w64 (x := (i : Int) + 1) (by omega) (by omega)]) ?_
    rw [show a + (i : Int) + 1 = a + ((i + 1 : Nat) : Int) by omega]
    exact fin
theorem eqOpS_l (l : List S124) (hl : l.length ≤ 281474976710656) (d : Nat) : ∀ (i : Nat), i + d = l.length → Ev (fun k => laws_eqOpS.l0 k l l i) true := by
  induction d with
  | zero => intro i hi; exact Ev.step (fun k => by simp only [laws_eqOpS.l0]; exact if_neg (by omega)) (Ev.now _)
  | succ d ih =>
    intro i hi
    have e : ∀ x : S124, laws_eqOp.f x.f0 x.f1 x.f2 x.f3 x.f4 x.f0 x.f1 x.f2 x.f3 x.f4 = some true := fun x => by
      simp [laws_eqOp.f]
    refine Ev.step (fun k => by simp only [laws_eqOpS.l0]; rw [if_pos (by omega), if_pos (by omega), if_pos (by omega), e, Option.bind_some, if_pos rfl, w64 (by omega) (by omega)]; rfl) (ih (i + 1) (by omega))
theorem eqLine_ev (r : Int × List S124 × Bool × ByteArray × List Int) (h1 : r.2.1.length ≤ 10000000) (h2 : r.2.2.2.2.length ≤ 10000000) : Ev (fun k => laws_eqLine.f k r.1 r.2.1 r.2.2.1 r.2.2.2.1 r.2.2.2.2 r.1 r.2.1 r.2.2.1 r.2.2.2.1 r.2.2.2.2) true := by
  simp only [laws_eqLine.f, laws_eqRequest.f, laws_eqOpS.f]
  refine Ev.pos trivial (Ev.bind (Ev.bind (Ev.pos trivial (eqOpS_l r.2.1 (by omega) r.2.1.length 0 (by omega))) (Ev.pos rfl (Ev.now _))) (Ev.pos rfl (Ev.neg (by simp) (Ev.pos trivial (Ev.bind (eqInt64S_ev _ (by omega)) (Ev.pos rfl (Ev.now _)))))))
theorem toByteS_l (x0 : List Int) (hl : x0.length ≤ 281474976710656) (d : Nat) : ∀ (i : Nat) (x3 : List Int), i + d = x0.length → x3.length = x0.length → x3.take i = x0.take i → ∀ k, d < k → laws_toByteS.l0 k x0 x3 i = some x0 := by
  induction d with
  | zero =>
    intro i x3 hi hl3 ht k hk
    obtain ⟨k, rfl⟩ : ∃ m, k = m + 1 := ⟨k - 1, by omega⟩
    simp only [laws_toByteS.l0]
    rw [if_neg (by omega), ← List.take_of_length_le (l := x3) (i := i) (by omega), ht, List.take_of_length_le (by omega)]
  | succ d ih =>
    intro i x3 hi hl3 ht k hk
    obtain ⟨k, rfl⟩ : ∃ m, k = m + 1 := ⟨k - 1, by omega⟩
    simp only [laws_toByteS.l0]
    rw [if_pos (by omega), if_pos (by omega), if_pos (by omega), w64 (by omega) (by omega), Int.toNat_natCast]
    refine ih (i + 1) _ (by omega) (by simpa using hl3) ?_ k (by omega)
    apply List.ext_getElem?
    intro n
    simp only [List.getElem?_take, rd, Int.toNat_natCast]
    by_cases hn : n < i
    · have h1 : (x3.take i)[n]? = (x0.take i)[n]? := by rw [ht]
      simp only [List.getElem?_take, if_pos hn] at h1
      rw [if_pos (by omega), if_pos (by omega), List.getElem?_set_ne (by omega)]; exact h1
    · by_cases hn2 : n = i
      · subst hn2; rw [if_pos (by omega), if_pos (by omega), List.getElem?_set_self (by omega)]
        simp [List.getElem?_eq_getElem (show n < x0.length by omega)]
      · rw [if_neg (by omega), if_neg (by omega)]
theorem toByteS_ev (l : List Int) (hl : l.length ≤ 281474976710656) : Ev (fun k => laws_toByteS.f k l) l := by
  refine ⟨l.length + 1, fun k hk => ?_⟩
  simp only [laws_toByteS.f]
  rw [if_pos (by omega), if_pos (by omega)]
  exact toByteS_l l hl l.length 0 _ (by omega) (by simp) (by simp) k (by omega)

theorem eqByteS_l (x : List Int) (hl : x.length ≤ 281474976710656) (d : Nat) : ∀ (i : Nat), i + d = x.length → ∀ k, d < k → laws_eqByteS.l0 k x x i = some true := by
  induction d with
  | zero =>
    intro i hi k hk
    obtain ⟨k, rfl⟩ : ∃ m, k = m + 1 := ⟨k - 1, by omega⟩
    simp only [laws_eqByteS.l0]
    rw [if_neg (by omega)]
  | succ d ih =>
    intro i hi k hk
    obtain ⟨k, rfl⟩ : ∃ m, k = m + 1 := ⟨k - 1, by omega⟩
    simp only [laws_eqByteS.l0]
    rw [if_pos (by omega), if_pos (by omega), if_pos (by omega), if_pos trivial, w64 (by omega) (by omega)]
    exact ih (i + 1) (by omega) k (by omega)
theorem eqByteS_ev (l : List Int) (hl : l.length ≤ 281474976710656) : Ev (fun k => laws_eqByteS.f k l l) true := by
  refine ⟨l.length + 1, fun k hk => ?_⟩
  simp only [laws_eqByteS.f]
  rw [if_pos trivial]
  exact eqByteS_l l hl l.length 0 (by omega) k (by omega)

def markB (a : Int) (l : List Int) : List Int := (List.range l.length).map fun i : Nat => (a + (i : Int)) % 256
theorem markByteS_l (a : Int) (ha : 0 ≤ a) (ha2 : a ≤ 4611686018427387904) (n : Nat) (hl : n ≤ 281474976710656) (d : Nat) : ∀ (i : Nat) (x : List Int), i + d = n → x.length = n → x.take i = (List.range i).map (fun i : Nat => (a + (i : Int)) % 256) → ∀ k, d < k → laws_markByteS.l0 k x (a + i) i = some (a + n, (List.range n).map fun i : Nat => (a + (i : Int)) % 256) := by
  induction d with
  | zero =>
    intro i x hi hx ht k hk
    obtain ⟨k, rfl⟩ : ∃ m, k = m + 1 := ⟨k - 1, by omega⟩
    simp only [laws_markByteS.l0]
    rw [if_neg (by omega)]
    rw [List.take_of_length_le (by omega)] at ht
    obtain rfl : i = n := by omega
    rw [ht]
  | succ d ih =>
    intro i x hi hx ht k hk
    obtain ⟨k, rfl⟩ : ∃ m, k = m + 1 := ⟨k - 1, by omega⟩
    simp only [laws_markByteS.l0]
    rw [if_pos (by omega), if_pos (by omega), w64 (by omega) (by omega), w64 (by omega) (by omega), Int.toNat_natCast]
    have e1 : a + (i : Int) + 1 = a + ((i + 1 : Nat) : Int) := by omega
    have e2 : (i : Int) + 1 = ((i + 1 : Nat) : Int) := by omega
    rw [e1, e2]
    refine ih (i + 1) _ (by omega) (by simpa using hx) ?_ k (by omega)
    rw [List.range_succ, List.map_append, ← ht, List.take_add_one]
    simp [List.take_set_of_le, hx, show i < n by omega]
theorem markByteS_ev (a : Int) (ha : 0 ≤ a) (ha2 : a ≤ 4611686018427387904) (l : List Int) (hl : l.length ≤ 281474976710656) : Ev (fun k => laws_markByteS.f k l a) (a + l.length, markB a l) := by
  refine ⟨l.length + 1, fun k hk => ?_⟩
  simp only [laws_markByteS.f]
  have := markByteS_l a ha ha2 l.length hl l.length 0 l (by omega) rfl (by simp) k (by omega)
  simpa [markB] using this
theorem opsO_len (F : List ByteArray) : ∀ (cur : List ByteArray) (os : List S124), opsO cur F = some os → os.length ≤ F.length + 1 := by
  induction F with
  | nil =>
    intro cur os h
    rw [opsO] at h
    obtain ⟨o, _, rfl⟩ := Option.map_eq_some_iff.1 h
    simp
  | cons f t ih =>
    intro cur os h
    rw [opsO] at h
    split at h
    · obtain ⟨o, _, h⟩ := Option.bind_eq_some_iff.1 h
      obtain ⟨xs, hx, rfl⟩ := Option.map_eq_some_iff.1 h
      have := ih [] xs hx
      simp; omega
    · have := ih _ os h
      simp; omega
theorem n2_len {F : List ByteArray} {l : List Int} {r : Int × List S124 × Bool × ByteArray × List Int} (h : n2 F l = some r) : r.2.1 = [] ∧ r.2.2.2.2 = l := by
  unfold n2 n3 n4 n5 at h
  repeat' split at h
  all_goals first
    | (obtain rfl := Option.some.inj h; exact ⟨rfl, rfl⟩)
    | cases h
theorem lOne_len {F : List ByteArray} {r : Int × List S124 × Bool × ByteArray × List Int} (h : lOne F = some r) : r.2.1.length ≤ 1 ∧ r.2.2.2.2.length ≤ F.length := by
  unfold lOne lGet lList ln at h
  repeat' split at h
  all_goals first
    | (obtain rfl := Option.some.inj h; exact ⟨by simp, by simp⟩)
    | skip
  unfold lNum nf at h
  split at h
  · obtain ⟨l, hl, h⟩ := Option.bind_eq_some_iff.1 h
    obtain ⟨h1, h2⟩ := n2_len h
    have := numsR_len _ l hl
    rw [h1, h2]
    rw [List.length_drop] at this
    exact ⟨by simp, by omega⟩
  · cases h
theorem lnO_len {F : List ByteArray} {r : Int × List S124 × Bool × ByteArray × List Int} (h : lnO F = some r) : r.2.1.length ≤ F.length + 1 ∧ r.2.2.2.2.length ≤ F.length := by
  unfold lnO at h
  split at h
  · obtain ⟨xs, hx, rfl⟩ := Option.map_eq_some_iff.1 h
    have := opsO_len _ _ xs hx
    rw [List.length_drop] at this
    exact ⟨by show xs.length ≤ _; omega, by simp⟩
  · unfold lOp at h
    split at h
    · obtain rfl := Option.some.inj h; exact ⟨by simp, by simp⟩
    · have := lOne_len h
      omega
theorem lineOf_len (l : List Int) : (lineOf l).2.1.length ≤ 100000 ∧ (lineOf l).2.2.2.2.length ≤ 100000 := by
  unfold lineOf
  have hz : (ln 0).2.1.length ≤ 100000 ∧ (ln 0).2.2.2.2.length ≤ 100000 := ⟨by simp [ln], by simp [ln]⟩
  split
  · exact hz
  · split
    · have h2 := fieldsB_len (strOfNums l)
      rw [strOfNums_size] at h2
      cases h : lnO (fieldsB (strOfNums l)) with
      | none => exact hz
      | some r =>
        have := lnO_len h
        exact ⟨by show r.2.1.length ≤ _; omega, by show r.2.2.2.2.length ≤ _; omega⟩
    · exact hz
theorem FnExactParseLine : laws_FnExactParseLine.Pure := by
  intro l ⟨_, hw⟩
  have hb : ∀ x ∈ l, 0 ≤ x ∧ x ≤ 255 := fun x hx => u8_wf (hw x hx)
  apply Ev.rounds
  simp only [laws_FnExactParseLine.f]
  by_cases c : (l.length : Int) > 1048576
  · exact Ev.pos c (Ev.now _)
  refine Ev.neg c ?_
  have eb := toByteS_ev l (by omega)
  have es := specLine_ev l (by omega) hb
  have ei := implLine_ev l (by omega)
  obtain ⟨b1, b2⟩ := lineOf_len l
  generalize lineOf l = R at es ei b1 b2
  have eq := eqLine_ev R (by omega) (by omega)
  obtain ⟨M, hM⟩ := mtext_ex
  have em := markByteS_ev 1 (by omega) (by omega) l (by omega)
  have m1 : Ev (fun k => laws_markLine.f k R.1 R.2.1 R.2.2.1 R.2.2.2.1 R.2.2.2.2 1) (1 + 5 * (R.2.1.length : Int) + (R.2.2.2.2.length : Int), mkOL M R.2.1.length, mkI (1 + 5 * (R.2.1.length : Int)) R.2.2.2.2.length) := by
    simp only [laws_markLine.f, laws_markRequest.f, laws_markOpS.f, laws_markInt64S.f]
    have h1 := markOpS_x M hM R.2.1.length (by omega) R.2.1.length 0 R.2.1 1 (by omega) rfl (by omega) (fun j hj => absurd hj (Nat.not_lt_zero _))
    have h2 := markI_x (1 + 5 * (R.2.1.length : Int)) (by omega) (by omega) R.2.2.2.2.length (by omega) R.2.2.2.2.length 0 R.2.2.2.2 (by omega) rfl (fun j hj => absurd hj (Nat.not_lt_zero _))
    have e0 : (1 + 5 * (R.2.1.length : Int)) + ((0 : Nat) : Int) = 1 + 5 * (R.2.1.length : Int) := by omega
    rw [e0] at h2
    exact Ev.bind (Ev.bind h1 (Ev.now _)) (Ev.bind h2 (Ev.now _))
  have m2 : Ev (fun k => laws_heldLine.f k R.1 (mkOL M R.2.1.length) R.2.2.1 R.2.2.2.1 (mkI (1 + 5 * (R.2.1.length : Int)) R.2.2.2.2.length) 1) (1 + 5 * (R.2.1.length : Int) + (R.2.2.2.2.length : Int)) := by
    simp only [laws_heldLine.f, laws_heldRequest.f, laws_heldOpS.f, laws_heldInt64S.f]
    have h1 := heldOpS_x M hM R.2.1.length (by omega) R.2.1.length 0 1 (by omega) (by omega)
    have h2 := heldI_x (1 + 5 * (R.2.1.length : Int)) (by omega) (by omega) R.2.2.2.2.length (by omega) R.2.2.2.2.length 0 (by omega)
    have e0 : (1 + 5 * (R.2.1.length : Int)) + ((0 : Nat) : Int) = 1 + 5 * (R.2.1.length : Int) := by omega
    rw [e0] at h2
    refine Ev.bind (Ev.bind h1 (Ev.neg (by omega) (Ev.now _))) (Ev.neg (by omega) (Ev.bind h2 (Ev.neg (by omega) (Ev.now _))))
  refine Ev.bind eb (Ev.bind es (Ev.bind eb (Ev.bind ei (Ev.bind eq (Ev.pos (by trivial) (Ev.bind eb (Ev.bind (eqByteS_ev l (by omega)) (Ev.pos (by trivial) (Ev.bind em ?_)))))))))
  refine Ev.neg (by show ¬ (1 + (l.length : Int)) < 0; omega) (Ev.bind eq ?_)
  refine Ev.step (fun k => by simp only [laws_FnExactParseLine.j0]; rfl) ?_
  refine Ev.neg (by simp) (Ev.bind m1 (Ev.bind m2 (Ev.neg (by omega) (Ev.pos (by trivial) (Ev.bind eb (Ev.bind ei (Ev.bind eq (Ev.pos (by trivial) (Ev.now _)))))))))

end Go.Proofs.YtfiojiokmkiflaaDoor.Pure
