/- What is proved: the law FnCrcByte returns true: of at most 2000 bytes the program's Crc is the reference's, and another one when one byte is changed. Conditions: none but the listed variable's contents, which the card's tie pays. -/
import Derived.Test.YtejecjjimggjeaaDoorGFnCrcBytex2
import Derived.Test.YtejecjjimggjeaaDoorHCrc
import Derived.Test.YtejecjjimggjeaaDoorHCrc
namespace Go.Proofs.YtejecjjimggjeaaDoor.Pure
open Go.RowKit Go.Proofs.YtejecjjimggjeaaDoor.GFnCrcByte Go.Proofs.YtejecjjimggjeaaDoorW.PrintWords Go.Proofs.YtejecjjimggjeaaDoorW.PrintLast Go.Proofs.YtejecjjimggjeaaDoorW.PrintMore
set_option linter.unusedVariables false
set_option linter.unusedSimpArgs false

theorem w64 {x : Int} (h0 : -9223372036854775808 ≤ x) (h1 : x < 9223372036854775808) : wrap64 x = x := by unfold wrap64; omega
theorem u8_wf {x : Int} (h : (Lit.int .u8 x).wf = true) : 0 ≤ x ∧ x ≤ 255 := by
  simp [Lit.wf, IntKind.min, IntKind.max, IntKind.signed, IntKind.bits] at h
  omega
theorem Ev.pos {α : Type} {c : Prop} [Decidable c] {f g : Nat → Option α} {r : α} (hc : c) (h : Ev f r) : Ev (fun n => if c then f n else g n) r := Ev.congr (fun _ => if_pos hc) h
theorem Ev.neg {α : Type} {c : Prop} [Decidable c] {f g : Nat → Option α} {r : α} (hc : ¬c) (h : Ev g r) : Ev (fun n => if c then f n else g n) r := Ev.congr (fun _ => if_neg hc) h
theorem Ev.ofE {α : Type} {f : Option α} {r : α} (h : f = some r) : Ev (fun _ => f) r := ⟨0, fun _ _ => h⟩
theorem Ev.bindS {α β : Type} {g : Option α} {f : Nat → α → Option β} {a : α} {r : β} (h : g = some a) (k : Ev (fun n => f n a) r) : Ev (fun n => g.bind (f n)) r := Ev.congr (fun _ => by rw [h]; rfl) k
open Go.Proofs.YtejecjjimggjeaaDoorH (nibAt tabNIB)
def stC (r c : Nat) : Nat := if (r + c) % 2 = 1 then (r / 2) ^^^ 2197175160 else r / 2
def snC (r n : Nat) : Nat := stC (stC (stC (stC r n) (n / 2)) (n / 4)) (n / 8)
def nibN (i : Nat) : Nat := [0x00000000, 0x105ec76f, 0x20bd8ede, 0x30e349b1, 0x417b1dbc, 0x5125dad3, 0x61c69362, 0x7198540d, 0x82f63b78, 0x92a8fc17, 0xa24bb5a6, 0xb21572c9, 0xc38d26c4, 0xd3d3e1ab, 0xe330a81a, 0xf36e6f75].getD i 0
def eC (b : Nat) : Nat := if b % 2 = 1 then 2197175160 else 0
theorem stC_e (r c : Nat) : stC r c = r / 2 ^^^ eC (r + c) := by
  unfold stC eC; split <;> simp
theorem eC_2 (b : Nat) : eC b % 2 = 0 ∧ eC b / 2 % 2 = 0 ∧ eC b / 4 % 2 = 0 := by unfold eC; split <;> simp
theorem eC_par {a b : Nat} (h : a % 2 = b % 2) : eC a = eC b := by unfold eC; rw [h]
theorem xor2 (a b : Nat) : (a ^^^ b) / 2 = a / 2 ^^^ b / 2 := Nat.xor_div_two
theorem xorm (a b : Nat) : (a ^^^ b) % 2 = (a + b) % 2 := by
  have := @Nat.xor_mod_two_eq_one a b
  omega
theorem snC_e (r n : Nat) : snC r n = r / 16 ^^^ (eC (r + n) / 8 ^^^ eC (r / 2 + n / 2) / 4 ^^^ eC (r / 4 + n / 4) / 2 ^^^ eC (r / 8 + n / 8)) := by
  unfold snC
  obtain ⟨a1, a2, a3⟩ := eC_2 (r + n)
  obtain ⟨b1, b2, b3⟩ := eC_2 (r / 2 + n / 2)
  obtain ⟨c1, c2, c3⟩ := eC_2 (r / 4 + n / 4)
  have h1 : stC r n = r / 2 ^^^ eC (r + n) := stC_e r n
  have h2 : stC (stC r n) (n / 2) = r / 4 ^^^ eC (r + n) / 2 ^^^ eC (r / 2 + n / 2) := by
    rw [h1, stC_e, xor2, Nat.div_div_eq_div_mul]
    congr 1
    refine eC_par ?_
    have := xorm (r / 2) (eC (r + n))
    omega
  have h3 : stC (stC (stC r n) (n / 2)) (n / 4) = r / 8 ^^^ eC (r + n) / 4 ^^^ eC (r / 2 + n / 2) / 2 ^^^ eC (r / 4 + n / 4) := by
    rw [h2, stC_e, xor2, xor2, Nat.div_div_eq_div_mul, Nat.div_div_eq_div_mul]
    congr 1
    refine eC_par ?_
    have e1 := xorm (r / 4 ^^^ eC (r + n) / 2) (eC (r / 2 + n / 2))
    have e2 := xorm (r / 4) (eC (r + n) / 2)
    omega
  rw [h3, stC_e, xor2, xor2, xor2, Nat.div_div_eq_div_mul, Nat.div_div_eq_div_mul, Nat.div_div_eq_div_mul]
  have : eC ((r / 8 ^^^ eC (r + n) / 4 ^^^ eC (r / 2 + n / 2) / 2 ^^^ eC (r / 4 + n / 4)) + n / 8) = eC (r / 8 + n / 8) := by
    refine eC_par ?_
    have e1 := xorm (r / 8 ^^^ eC (r + n) / 4 ^^^ eC (r / 2 + n / 2) / 2) (eC (r / 4 + n / 4))
    have e2 := xorm (r / 8 ^^^ eC (r + n) / 4) (eC (r / 2 + n / 2) / 2)
    have e3 := xorm (r / 8) (eC (r + n) / 4)
    omega
  rw [this]
  simp only [Nat.xor_assoc]
theorem snC_nib (r n : Nat) : snC r n = nibN ((r ^^^ n) % 16) ^^^ (r / 16) := by
  rw [snC_e, Nat.xor_comm]
  congr 1
  have h0 : eC (r + n) = eC ((r ^^^ n) % 16) := eC_par (by have := xorm r n; omega)
  have h1 : eC (r / 2 + n / 2) = eC ((r ^^^ n) % 16 / 2) := eC_par (by have := xorm (r / 2) (n / 2); have := xor2 r n; omega)
  have h2 : eC (r / 4 + n / 4) = eC ((r ^^^ n) % 16 / 4) := eC_par (by have := xorm (r / 2 / 2) (n / 2 / 2); have := xor2 r n; have := xor2 (r / 2) (n / 2); omega)
  have h3 : eC (r / 8 + n / 8) = eC ((r ^^^ n) % 16 / 8) := eC_par (by have := xorm (r / 2 / 2 / 2) (n / 2 / 2 / 2); have := xor2 r n; have := xor2 (r / 2) (n / 2); have := xor2 (r / 2 / 2) (n / 2 / 2); omega)
  rw [h0, h1, h2, h3]
  have hb : ∀ y, y < 16 → eC y / 8 ^^^ eC (y / 2) / 4 ^^^ eC (y / 4) / 2 ^^^ eC (y / 8) = nibN y := by decide
  exact hb _ (Nat.mod_lt _ (by decide))
theorem stC_lt {r c : Nat} (h : r < 4294967296) : stC r c < 4294967296 := by
  rw [stC_e]
  have : eC (r + c) < 2 ^ 32 := by unfold eC; split <;> decide
  exact Nat.xor_lt_two_pow (n := 32) (by omega) this
theorem snC_lt {r n : Nat} (h : r < 4294967296) : snC r n < 4294967296 := stC_lt (stC_lt (stC_lt (stC_lt h)))
def byteC (r b : Nat) : Nat := snC (snC r b) (b / 16)
theorem byteC_lt {r b : Nat} (h : r < 4294967296) : byteC r b < 4294967296 := snC_lt (snC_lt h)
theorem bxor64 (a b : Nat) (ha : a < 4294967296) (hb : b < 4294967296) : Go.bits .xor .i64 a b = ((a ^^^ b : Nat) : Int) := by
  have hx : a ^^^ b < 4294967296 := Nat.xor_lt_two_pow (n := 32) ha hb
  show IntKind.i64.wrap ((BitVec.ofInt 64 a ^^^ BitVec.ofInt 64 b).toNat : Int) = _
  rw [BitVec.toNat_xor, BitVec.ofInt_natCast, BitVec.ofInt_natCast, BitVec.toNat_ofNat, BitVec.toNat_ofNat, Nat.mod_eq_of_lt (by omega), Nat.mod_eq_of_lt (by omega), IntKind.wrap_i64]
  omega
theorem bxor32 (a b : Nat) (ha : a < 4294967296) (hb : b < 4294967296) : Go.bits .xor .u32 a b = ((a ^^^ b : Nat) : Int) := by
  have hx : a ^^^ b < 4294967296 := Nat.xor_lt_two_pow (n := 32) ha hb
  show IntKind.u32.wrap ((BitVec.ofInt 32 a ^^^ BitVec.ofInt 32 b).toNat : Int) = _
  rw [BitVec.toNat_xor, BitVec.ofInt_natCast, BitVec.ofInt_natCast, BitVec.toNat_ofNat, BitVec.toNat_ofNat, Nat.mod_eq_of_lt (by omega), Nat.mod_eq_of_lt (by omega), IntKind.wrap_u32]
  omega
theorem bnot32 (a : Nat) (ha : a < 4294967296) : Go.bits .xor .u32 4294967295 a = 4294967295 - (a : Int) := by
  show IntKind.u32.wrap ((BitVec.ofInt 32 4294967295 ^^^ BitVec.ofInt 32 a).toNat : Int) = _
  rw [show BitVec.ofInt 32 4294967295 = BitVec.allOnes 32 from rfl, BitVec.allOnes_xor, BitVec.toNat_not, BitVec.ofInt_natCast, BitVec.toNat_ofNat, Nat.mod_eq_of_lt (by omega), IntKind.wrap_u32]
  omega
theorem band15 (a : Nat) (ha : a < 4294967296) : Go.bits .and .u32 a 15 = ((a % 16 : Nat) : Int) := by
  rw [Go.Proofs.YtejecjjimggjeaaDoorH.and15_nat, BitVec.ofInt_natCast, BitVec.toNat_ofNat, Nat.mod_eq_of_lt (by omega)]
  rw [show (15 : Nat) = 2 ^ 4 - 1 from rfl, Nat.and_two_pow_sub_one_eq_mod]
theorem nibAt_n (i : Nat) (h : i < 16) : nibAt (i : Int) = (nibN i : Int) := by
  have : ∀ i, i < 16 → tabNIB.getD i 0 = (nibN i : Int) := by decide
  show tabNIB.getD (i : Int).toNat 0 = _
  rw [Int.toNat_natCast]
  exact this i h
theorem implNib (r n : Nat) (hr : r < 4294967296) (hn : n < 256) : Go.bits .xor .u32 (nibAt (Go.bits .and .u32 (Go.bits .xor .u32 r ((n : Int) % 4294967296)) 15)) ((r : Int) / 16) = (snC r n : Int) := by
  rw [show (n : Int) % 4294967296 = (n : Int) by omega, bxor32 r n hr (by omega), band15 _ (Nat.xor_lt_two_pow (n := 32) hr (by omega)), nibAt_n _ (Nat.mod_lt _ (by decide)), show (r : Int) / 16 = ((r / 16 : Nat) : Int) from rfl, bxor32 _ _ ?_ (by omega), snC_nib]
  have : ∀ i, i < 16 → nibN i < 4294967296 := by decide
  exact this _ (Nat.mod_lt _ (by decide))
def crcN (l : List Nat) : Nat := l.foldl byteC 4294967295
def OkL (l : List Int) : Prop := ∀ x ∈ l, 0 ≤ x ∧ x ≤ 255
def natL (l : List Int) : List Nat := l.map Int.toNat
theorem fold_lt (l : List Nat) : ∀ r, r < 4294967296 → l.foldl byteC r < 4294967296 := by
  induction l with
  | nil => intro r h; exact h
  | cons b l ih => intro r h; exact ih _ (byteC_lt h)
theorem rd_nat {l : List Int} (ok : OkL l) (i : Nat) (hi : i < l.length) : ∃ b : Nat, b < 256 ∧ rd l i = (b : Int) ∧ (natL l).drop i = b :: (natL l).drop (i + 1) := by
  have h := ok _ (List.getElem_mem hi)
  refine ⟨l[i].toNat, by omega, by simp [rd, hi]; omega, ?_⟩
  rw [natL, List.drop_eq_getElem_cons (by simpa using hi)]
  simp
theorem implCrc_l {l : List Int} (ok : OkL l) (hl : l.length ≤ 281474976710656) (d : Nat) : ∀ (i r : Nat), i + d = l.length → r < 4294967296 → Ev (fun k => impl_Crc.l0 k r l (l.length : Int) i) (4294967295 - ((List.foldl byteC r ((natL l).drop i) : Nat) : Int)) := by
  induction d with
  | zero =>
    intro i r hi hr
    refine Ev.step (fun k => by simp only [impl_Crc.l0]; rw [if_neg (by omega), bnot32 r hr, w64 (by omega) (by omega)]) ?_
    rw [List.drop_of_length_le (by simp [natL]; omega)]; exact Ev.now _
  | succ d ih =>
    intro i r hi hr
    obtain ⟨b, hb, e, e2⟩ := rd_nat ok i (by omega)
    refine Ev.step (fun k => by simp only [impl_Crc.l0]; rw [if_pos (by omega), if_pos (by omega), if_pos (by omega), e, implNib r b hr hb, show (b : Int) / 16 = ((b / 16 : Nat) : Int) from rfl, implNib (snC r b) (b / 16) (snC_lt hr) (by omega), w64 (by omega) (by omega)]) ?_
    rw [e2, List.foldl_cons]
    exact ih (i + 1) _ (by omega) (byteC_lt hr)
theorem implCrc_ev {l : List Int} (ok : OkL l) (hl : l.length ≤ 281474976710656) : Ev (fun k => impl_Crc.f k l) (4294967295 - (crcN (natL l) : Int)) := by
  simp only [impl_Crc.f]
  exact implCrc_l ok hl l.length 0 4294967295 (by omega) (by omega)
theorem specCrc_1 {l : List Int} (ok : OkL l) (hl : l.length ≤ 281474976710656) (i : Nat) (hi : i < l.length) (b : Nat) (hb : b < 256) (e : rd l i = (b : Int)) (r j : Nat) (hr : r < 4294967296) (hj : j < 8) (k : Nat) : spec_Crc.l1 (k + 1) l r i j = spec_Crc.l1 k l (stC r (b / 2 ^ j) : Nat) i ((j + 1 : Nat) : Int) := by
  have e1 : IntKind.u64.wrap (j : Int) = (j : Int) := by show (j : Int) % 18446744073709551616 = j; omega
  have e2 : shr .u8 (b : Int) (j : Int) = ((b / 2 ^ j : Nat) : Int) := by
    unfold shr
    rw [show min (j : Int).toNat IntKind.u8.bits = j from by show min (j : Int).toNat 8 = j; omega]
    simp
  have hbj : b / 2 ^ j < 256 := Nat.lt_of_le_of_lt (Nat.div_le_self _ _) hb
  generalize b / 2 ^ j = q at e2 hbj ⊢
  simp only [spec_Crc.l1]
  rw [if_pos (by omega), if_pos (by omega), if_pos (by omega), e1, if_pos (by omega), e, e2, w64 (x := (q : Int)) (by omega) (by omega), w64 (x := (r : Int) + (q : Int)) (by omega) (by omega)]
  rw [show Int.tdiv (r : Int) 2 = ((r / 2 : Nat) : Int) from rfl, w64 (x := ((r / 2 : Nat) : Int)) (by omega) (by omega), show (2197175160 : Int) = ((2197175160 : Nat) : Int) from rfl, bxor64 _ _ (by omega) (by omega), w64 (x := (j : Int) + 1) (by omega) (by omega)]
  rw [show Int.tmod ((r : Int) + (q : Int)) 2 = (((r + q) % 2 : Nat) : Int) from rfl]
  unfold stC
  by_cases h : (r + q) % 2 = 1
  · rw [if_pos (by omega), if_pos h]; rfl
  · rw [if_neg (by omega), if_neg h]; rfl
theorem specCrc_b {l : List Int} (ok : OkL l) (hl : l.length ≤ 281474976710656) (i : Nat) (hi : i < l.length) (b : Nat) (hb : b < 256) (e : rd l i = (b : Int)) (r : Nat) (hr : r < 4294967296) (k : Nat) : spec_Crc.l1 (k + 9) l r i 0 = spec_Crc.l0 k l (byteC r b : Nat) ((i + 1 : Nat) : Int) := by
  have s := fun (r j : Nat) (hr : r < 4294967296) (hj : j < 8) (k : Nat) => specCrc_1 ok hl i hi b hb e r j hr hj k
  have h1 := stC_lt (c := b / 2 ^ 0) hr
  have h2 := stC_lt (c := b / 2 ^ 1) h1
  have h3 := stC_lt (c := b / 2 ^ 2) h2
  have h4 := stC_lt (c := b / 2 ^ 3) h3
  have h5 := stC_lt (c := b / 2 ^ 4) h4
  have h6 := stC_lt (c := b / 2 ^ 5) h5
  have h7 := stC_lt (c := b / 2 ^ 6) h6
  have := s r 0 hr (by omega) (k + 8)
  rw [show (((0 : Nat) : Int)) = 0 from rfl] at this
  rw [this, s _ 1 h1 (by omega) (k + 7), s _ 2 h2 (by omega) (k + 6), s _ 3 h3 (by omega) (k + 5), s _ 4 h4 (by omega) (k + 4), s _ 5 h5 (by omega) (k + 3), s _ 6 h6 (by omega) (k + 2), s _ 7 h7 (by omega) (k + 1)]
  have eb : byteC r b = stC (stC (stC (stC (stC (stC (stC (stC r (b / 2 ^ 0)) (b / 2 ^ 1)) (b / 2 ^ 2)) (b / 2 ^ 3)) (b / 2 ^ 4)) (b / 2 ^ 5)) (b / 2 ^ 6)) (b / 2 ^ 7) := by
    unfold byteC snC
    simp [Nat.div_div_eq_div_mul]
  rw [eb]
  simp only [spec_Crc.l1]
  rw [if_neg (by omega), w64 (by omega) (by omega)]
  rfl
theorem specCrc_l {l : List Int} (ok : OkL l) (hl : l.length ≤ 281474976710656) (d : Nat) : ∀ (i r : Nat), i + d = l.length → r < 4294967296 → Ev (fun k => spec_Crc.l0 k l r i) (4294967295 - ((List.foldl byteC r ((natL l).drop i) : Nat) : Int)) := by
  induction d with
  | zero =>
    intro i r hi hr
    refine Ev.step (fun k => by simp only [spec_Crc.l0]; rw [if_neg (by omega), w64 (by omega) (by omega)]) ?_
    rw [List.drop_of_length_le (by simp [natL]; omega)]; exact Ev.now _
  | succ d ih =>
    intro i r hi hr
    obtain ⟨b, hb, e, e2⟩ := rd_nat ok i (by omega)
    rw [e2, List.foldl_cons]
    obtain ⟨K, h⟩ := ih (i + 1) _ (by omega) (byteC_lt (b := b) hr)
    refine ⟨K + 10, fun k hk => ?_⟩
    obtain ⟨m, rfl⟩ : ∃ m, k = m + 10 := ⟨k - 10, by omega⟩
    have := h m (by omega)
    rw [← this]
    show spec_Crc.l0 (m + 9 + 1) l r i = _
    simp only [spec_Crc.l0]
    rw [if_pos (by omega)]
    exact specCrc_b ok hl i (by omega) b hb e r hr m
theorem specCrc_ev {l : List Int} (ok : OkL l) (hl : l.length ≤ 281474976710656) : Ev (fun k => spec_Crc.f k l) (4294967295 - (crcN (natL l) : Int)) := by
  simp only [spec_Crc.f]
  exact specCrc_l ok hl l.length 0 4294967295 (by omega) (by omega)

theorem stC_inj {r r' c : Nat} (h1 : r < 4294967296) (h2 : r' < 4294967296) (h : stC r c = stC r' c) : r = r' := by
  rw [stC_e, stC_e] at h
  by_cases hp : r % 2 = r' % 2
  · rw [eC_par (show (r + c) % 2 = (r' + c) % 2 by omega)] at h
    have h3 : r / 2 = r' / 2 := by
      have := congrArg (fun x => x ^^^ eC (r' + c)) h
      simpa [Nat.xor_assoc] using this
    omega
  · exfalso
    have hx : ∀ a b : Nat, a < 2147483648 → b < 2147483648 → a ^^^ 2197175160 ≠ b := fun a b ha hb he => by
      have h4 : a ^^^ b = 2197175160 := by rw [← he, ← Nat.xor_assoc, Nat.xor_self, Nat.zero_xor]
      have h5 : a ^^^ b < 2 ^ 31 := Nat.xor_lt_two_pow (n := 31) (by omega) (by omega)
      omega
    have hcase : ((r + c) % 2 = 1 ∧ (r' + c) % 2 = 0) ∨ ((r + c) % 2 = 0 ∧ (r' + c) % 2 = 1) := by omega
    unfold eC at h
    rcases hcase with ⟨h3, h4⟩ | ⟨h3, h4⟩
    · rw [if_pos h3, if_neg (by omega), Nat.xor_zero] at h
      exact hx _ _ (by omega) (by omega) h
    · rw [if_neg (by omega), if_pos h4, Nat.xor_zero] at h
      exact hx _ _ (by omega) (by omega) h.symm
theorem stC_sh (r c : Nat) : stC (r ^^^ c) 0 = stC r c ^^^ (c / 2) := by
  rw [stC_e, stC_e, xor2, eC_par (show ((r ^^^ c) + 0) % 2 = (r + c) % 2 by have := xorm r c; omega)]
  rw [Nat.xor_assoc, Nat.xor_assoc, Nat.xor_comm (c / 2)]
theorem byteC_8 (r b : Nat) : byteC r b = stC (stC (stC (stC (stC (stC (stC (stC r (b / 2 ^ 0)) (b / 2 ^ 1)) (b / 2 ^ 2)) (b / 2 ^ 3)) (b / 2 ^ 4)) (b / 2 ^ 5)) (b / 2 ^ 6)) (b / 2 ^ 7) := by
  unfold byteC snC
  simp [Nat.div_div_eq_div_mul]
def F8 (r : Nat) : Nat := stC (stC (stC (stC (stC (stC (stC (stC r 0) 0) 0) 0) 0) 0) 0) 0
theorem byteC_F (r b : Nat) (hb : b < 256) : byteC r b = F8 (r ^^^ b) := by
  have s : ∀ r j : Nat, stC (r ^^^ (b / 2 ^ j)) 0 = stC r (b / 2 ^ j) ^^^ (b / 2 ^ (j + 1)) := fun r j => by
    rw [stC_sh, Nat.div_div_eq_div_mul, Nat.pow_succ]
  rw [byteC_8]
  unfold F8
  rw [show r ^^^ b = r ^^^ (b / 2 ^ 0) by simp, s, s, s, s, s, s, s, s]
  rw [show b / 2 ^ (7 + 1) = 0 by omega, Nat.xor_zero]
theorem F8_inj {r r' : Nat} (h1 : r < 4294967296) (h2 : r' < 4294967296) (h : F8 r = F8 r') : r = r' := by
  unfold F8 at h
  have a1 := stC_lt (c := 0) h1
  have b1 := stC_lt (c := 0) h2
  have a2 := stC_lt (c := 0) a1
  have b2 := stC_lt (c := 0) b1
  have a3 := stC_lt (c := 0) a2
  have b3 := stC_lt (c := 0) b2
  have a4 := stC_lt (c := 0) a3
  have b4 := stC_lt (c := 0) b3
  have a5 := stC_lt (c := 0) a4
  have b5 := stC_lt (c := 0) b4
  have a6 := stC_lt (c := 0) a5
  have b6 := stC_lt (c := 0) b5
  have a7 := stC_lt (c := 0) a6
  have b7 := stC_lt (c := 0) b6
  exact stC_inj h1 h2 (stC_inj a1 b1 (stC_inj a2 b2 (stC_inj a3 b3 (stC_inj a4 b4 (stC_inj a5 b5 (stC_inj a6 b6 (stC_inj a7 b7 h)))))))
theorem xor_canc {a b c : Nat} (h : a ^^^ c = b ^^^ c) : a = b := by
  have := congrArg (fun x => x ^^^ c) h
  simpa [Nat.xor_assoc] using this
theorem byteC_injR {r r' b : Nat} (h1 : r < 4294967296) (h2 : r' < 4294967296) (hb : b < 256) (h : byteC r b = byteC r' b) : r = r' := by
  rw [byteC_F r b hb, byteC_F r' b hb] at h
  exact xor_canc (F8_inj (Nat.xor_lt_two_pow (n := 32) (by omega) (by omega)) (Nat.xor_lt_two_pow (n := 32) (by omega) (by omega)) h)
theorem byteC_injB {r b b' : Nat} (h1 : r < 4294967296) (hb : b < 256) (hb' : b' < 256) (h : byteC r b = byteC r b') : b = b' := by
  rw [byteC_F r b hb, byteC_F r b' hb'] at h
  have := F8_inj (Nat.xor_lt_two_pow (n := 32) (by omega) (by omega)) (Nat.xor_lt_two_pow (n := 32) (by omega) (by omega)) h
  rw [Nat.xor_comm r b, Nat.xor_comm r b'] at this
  exact xor_canc this
theorem fold_inj (l : List Nat) : ∀ (r r' : Nat), (∀ b ∈ l, b < 256) → r < 4294967296 → r' < 4294967296 → l.foldl byteC r = l.foldl byteC r' → r = r' := by
  induction l with
  | nil => intro r r' _ _ _ h; exact h
  | cons b l ih =>
    intro r r' hl h1 h2 h
    exact byteC_injR h1 h2 (hl b (by simp)) (ih _ _ (fun x hx => hl x (by simp [hx])) (byteC_lt h1) (byteC_lt h2) h)
theorem crcN_ne (l : List Nat) (hl : ∀ b ∈ l, b < 256) (i : Nat) (hi : i < l.length) (v : Nat) (hv : v < 256) (hne : v ≠ l[i]) : crcN (l.set i v) ≠ crcN l := by
  intro h
  have e1 : l = l.take i ++ l[i] :: l.drop (i + 1) := by rw [List.getElem_cons_drop, List.take_append_drop]
  have e2 : l.set i v = l.take i ++ v :: l.drop (i + 1) := by
    rw [List.set_eq_take_append_cons_drop, if_pos hi]
  unfold crcN at h
  rw [e2] at h
  have h2 : (l.take i ++ v :: l.drop (i + 1)).foldl byteC 4294967295 = (l.take i ++ l[i] :: l.drop (i + 1)).foldl byteC 4294967295 := h.trans (congrArg (fun x => List.foldl byteC 4294967295 x) e1)
  rw [List.foldl_append, List.foldl_append, List.foldl_cons, List.foldl_cons] at h2
  have hr := fold_lt (l.take i) 4294967295 (by omega)
  have h3 := fold_inj _ _ _ (fun b hb => hl b (List.mem_of_mem_drop hb)) (byteC_lt hr) (byteC_lt hr) h2
  exact hne (byteC_injB hr hv (hl _ (List.getElem_mem hi)) h3)
theorem bxor8 (a b : Nat) (ha : a < 256) (hb : b < 256) : Go.bits .xor .u8 a b = ((a ^^^ b : Nat) : Int) := by
  have hx : a ^^^ b < 256 := Nat.xor_lt_two_pow (n := 8) ha hb
  show IntKind.u8.wrap ((BitVec.ofInt 8 a ^^^ BitVec.ofInt 8 b).toNat : Int) = _
  rw [BitVec.toNat_xor, BitVec.ofInt_natCast, BitVec.ofInt_natCast, BitVec.toNat_ofNat, BitVec.toNat_ofNat, Nat.mod_eq_of_lt (by omega), Nat.mod_eq_of_lt (by omega)]
  show ((a ^^^ b : Nat) : Int) % 256 = _
  omega
theorem lwAt_e (l : List Int) (ok : OkL l) (hl : l.length ≤ 1048576) (a n : Int) (ha : 0 ≤ a) (ha2 : a ≤ 1000) (hn : 2 ≤ n) (hn2 : n ≤ 1000) : ∃ r, laws_lwAt.f l a n = some r ∧ 0 ≤ r ∧ r < n := by
  unfold laws_lwAt.f
  rw [if_neg (by omega)]
  by_cases h0 : (l.length : Int) = 0
  · rw [if_pos h0, if_neg (by omega), w64 (by omega) (by omega)]
    exact ⟨_, rfl, Int.tmod_nonneg _ (by omega), Int.tmod_lt_of_pos _ (by omega)⟩
  · have h1 := Int.tmod_nonneg (l.length : Int) ha
    have h2 := Int.tmod_lt_of_pos a (show (0 : Int) < (l.length : Int) by omega)
    have h3 := Int.tdiv_nonneg ha (show (0 : Int) ≤ (l.length : Int) by omega)
    have h4 : Int.tdiv a (l.length : Int) ≤ a := by
      rw [Int.tdiv_eq_ediv_of_nonneg ha]
      exact Int.ediv_le_self _ ha
    obtain ⟨b, hb⟩ : ∃ b, b = rd l (Int.tmod a (l.length : Int)) := ⟨_, rfl⟩
    have hb2 : 0 ≤ b ∧ b ≤ 255 := by
      obtain ⟨m, hm⟩ := Int.eq_ofNat_of_zero_le h1
      rw [hm] at hb h2
      have hml : m < l.length := by omega
      have := ok l[m] (List.getElem_mem hml)
      rw [hb]
      simpa [rd, hml] using this
    rw [if_neg h0, if_pos h1, if_pos h2, if_neg (by omega), ← hb]
    rw [w64 (x := b) (by omega) (by omega), w64 (x := Int.tdiv a (l.length : Int)) (by omega) (by omega), w64 (by omega) (by omega)]
    exact ⟨_, rfl, Int.tmod_nonneg _ (by omega), Int.tmod_lt_of_pos _ (by omega)⟩
theorem crcByteKey (d l1 : List Int) (ok : OkL d) (hd : d.length ≤ 2000) (ok1 : OkL l1) (h1 : l1.length ≤ 1048576) : Ev (fun k => laws_FnCrcByte.g k d l1) true := by
  simp only [laws_FnCrcByte.g]
  refine Ev.bind (implCrc_ev ok (by omega)) (Ev.bind (specCrc_ev ok (by omega)) (Ev.pos rfl ?_))
  by_cases h0 : d.length = 0
  · refine Ev.pos h0 (Ev.bind (implCrc_ev (l := [49, 50, 51, 52, 53, 54, 55, 56, 57]) (fun x hx => by
      simp only [List.mem_cons, List.not_mem_nil, or_false] at hx
      omega) (by decide)) (Ev.pos ?_ (Ev.now _)))
    have hv : crcN (natL [49, 50, 51, 52, 53, 54, 55, 56, 57]) = 486108540 := by kernel_rfl
    rw [hv]; rfl
  · refine Ev.neg h0 ?_
    obtain ⟨a, ea, a1, a2⟩ := lwAt_e l1 ok1 h1 0 256 (by omega) (by omega) (by omega) (by omega)
    obtain ⟨b, eb, b1, b2⟩ := lwAt_e l1 ok1 h1 1 256 (by omega) (by omega) (by omega) (by omega)
    obtain ⟨c, ec, c1, c2⟩ := lwAt_e l1 ok1 h1 2 255 (by omega) (by omega) (by omega) (by omega)
    refine Ev.bindS ea (Ev.bindS eb (Ev.bindS ec ?_))
    rw [w64 (x := a * 256) (by omega) (by omega), w64 (x := a * 256 + b) (by omega) (by omega)]
    have hi1 := Int.tmod_nonneg (d.length : Int) (show (0 : Int) ≤ a * 256 + b by omega)
    have hi2 := Int.tmod_lt_of_pos (a * 256 + b) (show (0 : Int) < (d.length : Int) by omega)
    obtain ⟨i, hi⟩ := Int.eq_ofNat_of_zero_le hi1
    rw [hi] at hi1 hi2 ⊢
    refine Ev.pos ⟨hi1, hi2⟩ ?_
    have hil : i < d.length := by omega
    have hx := ok d[i] (List.getElem_mem hil)
    have hrd : rd d (i : Int) = d[i] := by simp [rd, hil]
    obtain ⟨x, hxe⟩ := Int.eq_ofNat_of_zero_le hx.1
    obtain ⟨y, hye⟩ := Int.eq_ofNat_of_zero_le c1
    rw [hrd, hxe, hye, w64 (by omega) (by omega), show IntKind.u8.wrap (1 + (y : Int)) = ((1 + y : Nat) : Int) by show (1 + (y : Int)) % 256 = _; omega, bxor8 x (1 + y) (by omega) (by omega), Int.toNat_natCast]
    have hv : x ^^^ (1 + y) < 256 := Nat.xor_lt_two_pow (n := 8) (by omega) (by omega)
    have okd : OkL (d.set i ((x ^^^ (1 + y) : Nat) : Int)) := fun z hz => by
      rcases List.mem_or_eq_of_mem_set hz with h | h
      · exact ok z h
      · subst h; omega
    refine Ev.bind (implCrc_ev okd (by rw [List.length_set]; omega)) (Ev.neg ?_ (Ev.now _))
    intro he
    have hn : natL (d.set i ((x ^^^ (1 + y) : Nat) : Int)) = (natL d).set i (x ^^^ (1 + y)) := by
      unfold natL
      rw [List.map_set, Int.toNat_natCast]
    rw [hn] at he
    refine crcN_ne (natL d) (fun q hq => ?_) i (by simpa [natL] using hil) (x ^^^ (1 + y)) hv ?_ (by omega)
    · obtain ⟨z, hz, rfl⟩ := List.mem_map.mp hq
      have := ok z hz
      omega
    · have : (natL d)[i]'(by simpa [natL] using hil) = x := by simp [natL, hxe]
      rw [this]
      intro h3
      have h4 : 1 + y = 0 := by
        have := congrArg (fun z => x ^^^ z) h3
        simp [← Nat.xor_assoc] at this
      omega
theorem FnCrcByte : laws_FnCrcByte.Pure := by
  intro l0 l1 ⟨h1, h2⟩ ⟨h3, h4⟩
  apply Ev.rounds
  have ok0 : OkL l0 := fun x hx => u8_wf (h2 x hx)
  have ok1 : OkL l1 := fun x hx => u8_wf (h4 x hx)
  simp only [laws_FnCrcByte.f]
  refine Ev.pos (List.all_eq_true.mpr (fun x hx => decide_eq_true (ok0 x hx))) ?_
  by_cases hl : (l0.length : Int) > 1048576
  · exact Ev.pos hl (Ev.now _)
  by_cases hl1 : (l1.length : Int) > 1048576
  · exact Ev.neg hl (Ev.pos hl1 (Ev.now _))
  refine Ev.neg hl (Ev.neg hl1 (crcByteKey _ l1 ?_ ?_ ok1 (by omega)))
  · by_cases h : (l0.length : Int) > 2000
    · rw [if_pos h]; exact fun x hx => ok0 x (List.mem_of_mem_take hx)
    · rw [if_neg h]; exact ok0
  · by_cases h : (l0.length : Int) > 2000
    · rw [if_pos h, List.length_take]; omega
    · rw [if_neg h]; omega

end Go.Proofs.YtejecjjimggjeaaDoor.Pure
