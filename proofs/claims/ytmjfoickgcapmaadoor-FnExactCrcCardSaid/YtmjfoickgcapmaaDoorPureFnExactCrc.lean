/- What is proved: the law FnExactCrc returns true: at every list of bytes of at most 2^20 the program's Crc (by a table of nibbles) gives the reference's (bit by bit), and leaves its argument alone. Conditions: none but the listed variable's contents, which the card's tie pays. -/
import Derived.Test.YtmjfoickgcapmaaDoorGFnExactCrcx1
import Derived.Test.YtmjfoickgcapmaaDoorHCrc
import Derived.Test.YtmjfoickgcapmaaDoorHCrc
namespace Go.Proofs.YtmjfoickgcapmaaDoor.Pure
open Go.RowKit Go.Proofs.YtmjfoickgcapmaaDoor.GFnExactCrc Go.Proofs.YtmjfoickgcapmaaDoorW.PrintWords Go.Proofs.YtmjfoickgcapmaaDoorW.PrintLast Go.Proofs.YtmjfoickgcapmaaDoorW.PrintMore
set_option linter.unusedVariables false
set_option linter.unusedSimpArgs false

theorem w64 {x : Int} (h0 : -9223372036854775808 ≤ x) (h1 : x < 9223372036854775808) : wrap64 x = x := by unfold wrap64; omega
theorem u8_wf {x : Int} (h : (Lit.int .u8 x).wf = true) : 0 ≤ x ∧ x ≤ 255 := by
  simp [Lit.wf, IntKind.min, IntKind.max, IntKind.signed, IntKind.bits] at h
  omega
theorem Ev.pos {α : Type} {c : Prop} [Decidable c] {f g : Nat → Option α} {r : α} (hc : c) (h : Ev f r) : Ev (fun n => if c then f n else g n) r := Ev.congr (fun _ => if_pos hc) h
theorem Ev.neg {α : Type} {c : Prop} [Decidable c] {f g : Nat → Option α} {r : α} (hc : ¬c) (h : Ev g r) : Ev (fun n => if c then f n else g n) r := Ev.congr (fun _ => if_neg hc) h
theorem Ev.ofE {α : Type} {f : Option α} {r : α} (h : f = some r) : Ev (fun _ => f) r := ⟨0, fun _ _ => h⟩
theorem Ev.bindS {α β : Type} {g : Option α} {f : Nat → α → Option β} {a : α} {r : β} (h : g = some a) (k : Ev (fun n => f n a) r) : Ev (fun n => g.bind (f n)) r := Ev.congr (fun _ => by rw [h]; rfl) k
open Go.Proofs.YtmjfoickgcapmaaDoorH (nibAt tabNIB)
def stC (r c : Nat) : Nat := if (r + c) % 2 = 1 then (r / 2) ^^^ 2197175160 else r / 2
def snC (r n : Nat) : Nat := stC (stC (stC (stC r n) (n / 2)) (n / 4)) (n / 8)
def nibN (i : Nat) : Nat := [0x00000000, 0x105ec76f, 0x20bd8ede, 0x30e349b1, 0x417b1dbc, 0x5125dad3, 0x61c69362, 0x7198540d, 0x82f63b78, 0x92a8fc17, 0xa24bb5a6, 0xb21572c9, 0xc38d26c4, 0xd3d3e1ab, 0xe330a81a, 0xf36e6f75].getD i 0
def eC (b : Nat) : Nat := if b % 2 = 1 then 2197175160 else 0
theorem stC_e (r c : Nat) : stC r c = r / 2 ^^^ eC (r + c) := by
  unfold stC eC; split <;> simp
theorem eC_2 (b : Nat) : eC b % 2 = 0 ∧ eC b / 2 % 2 = 0 ∧ eC b / 4 % 2 = 0 := by unfold eC; split <;> simp
theorem eC_par {a b : Nat} (h : a % 2 = b % 2) : eC a = eC b := by unfold eC; rw [h]
theorem xor2 (a b : Nat) : (a ^^^ b) / 2 = a / 2 ^^^ b / 2 := Nat.xor_div_two
theorem xorm (a b : Nat) : (a ^^^ b) % 2 = (a + b) % 2 := by
  have := @Nat.xor_mod_two_eq_one a b
  omega
theorem snC_e (r n : Nat) : snC r n = r / 16 ^^^ (eC (r + n) / 8 ^^^ eC (r / 2 + n / 2) / 4 ^^^ eC (r / 4 + n / 4) / 2 ^^^ eC (r / 8 + n / 8)) := by
  unfold snC
  obtain ⟨a1, a2, a3⟩ := eC_2 (r + n)
  obtain ⟨b1, b2, b3⟩ := eC_2 (r / 2 + n / 2)
  obtain ⟨c1, c2, c3⟩ := eC_2 (r / 4 + n / 4)
  have h1 : stC r n = r / 2 ^^^ eC (r + n) := stC_e r n
  have h2 : stC (stC r n) (n / 2) = r / 4 ^^^ eC (r + n) / 2 ^^^ eC (r / 2 + n / 2) := by
    rw [h1, stC_e, xor2, Nat.div_div_eq_div_mul]
    congr 1
    refine eC_par ?_
    have := xorm (r / 2) (eC (r + n))
    omega
  have h3 : stC (stC (stC r n) (n / 2)) (n / 4) = r / 8 ^^^ eC (r + n) / 4 ^^^ eC (r / 2 + n / 2) / 2 ^^^ eC (r / 4 + n / 4) := by
    rw [h2, stC_e, xor2, xor2, Nat.div_div_eq_div_mul, Nat.div_div_eq_div_mul]
    congr 1
    refine eC_par ?_
    have e1 := xorm (r / 4 ^^^ eC (r + n) / 2) (eC (r / 2 + n / 2))
    have e2 := xorm (r / 4) (eC (r + n) / 2)
    omega
  rw [h3, stC_e, xor2, xor2, xor2, Nat.div_div_eq_div_mul, Nat.div_div_eq_div_mul, Nat.div_div_eq_div_mul]
  have : eC ((r / 8 ^^^ eC (r + n) / 4 ^^^ eC (r / 2 + n / 2) / 2 ^^^ eC (r / 4 + n / 4)) + n / 8) = eC (r / 8 + n / 8) := by
    refine eC_par ?_
    have e1 := xorm (r / 8 ^^^ eC (r + n) / 4 ^^^ eC (r / 2 + n / 2) / 2) (eC (r / 4 + n / 4))
    have e2 := xorm (r / 8 ^^^ eC (r + n) / 4) (eC (r / 2 + n / 2) / 2)
    have e3 := xorm (r / 8) (eC (r + n) / 4)
    omega
  rw [this]
  simp only [Nat.xor_assoc]
theorem snC_nib (r n : Nat) : snC r n = nibN ((r ^^^ n) % 16) ^^^ (r / 16) := by
  rw [snC_e, Nat.xor_comm]
  congr 1
  have h0 : eC (r + n) = eC ((r ^^^ n) % 16) := eC_par (by have := xorm r n; omega)
  have h1 : eC (r / 2 + n / 2) = eC ((r ^^^ n) % 16 / 2) := eC_par (by have := xorm (r / 2) (n / 2); have := xor2 r n; omega)
  have h2 : eC (r / 4 + n / 4) = eC ((r ^^^ n) % 16 / 4) := eC_par (by have := xorm (r / 2 / 2) (n / 2 / 2); have := xor2 r n; have := xor2 (r / 2) (n / 2); omega)
  have h3 : eC (r / 8 + n / 8) = eC ((r ^^^ n) % 16 / 8) := eC_par (by have := xorm (r / 2 / 2 / 2) (n / 2 / 2 / 2); have := xor2 r n; have := xor2 (r / 2) (n / 2); have := xor2 (r / 2 / 2) (n / 2 / 2); omega)
  rw [h0, h1, h2, h3]
  have hb : ∀ y, y < 16 → eC y / 8 ^^^ eC (y / 2) / 4 ^^^ eC (y / 4) / 2 ^^^ eC (y / 8) = nibN y := by decide
  exact hb _ (Nat.mod_lt _ (by decide))
theorem stC_lt {r c : Nat} (h : r < 4294967296) : stC r c < 4294967296 := by
  rw [stC_e]
  have : eC (r + c) < 2 ^ 32 := by unfold eC; split <;> decide
  exact Nat.xor_lt_two_pow (n := 32) (by omega) this
theorem snC_lt {r n : Nat} (h : r < 4294967296) : snC r n < 4294967296 := stC_lt (stC_lt (stC_lt (stC_lt h)))
def byteC (r b : Nat) : Nat := snC (snC r b) (b / 16)
theorem byteC_lt {r b : Nat} (h : r < 4294967296) : byteC r b < 4294967296 := snC_lt (snC_lt h)
theorem bxor64 (a b : Nat) (ha : a < 4294967296) (hb : b < 4294967296) : Go.bits .xor .i64 a b = ((a ^^^ b : Nat) : Int) := by
  have hx : a ^^^ b < 4294967296 := Nat.xor_lt_two_pow (n := 32) ha hb
  show IntKind.i64.wrap ((BitVec.ofInt 64 a ^^^ BitVec.ofInt 64 b).toNat : Int) = _
  rw [BitVec.toNat_xor, BitVec.ofInt_natCast, BitVec.ofInt_natCast, BitVec.toNat_ofNat, BitVec.toNat_ofNat, Nat.mod_eq_of_lt (by omega), Nat.mod_eq_of_lt (by omega), IntKind.wrap_i64]
  omega
theorem bxor32 (a b : Nat) (ha : a < 4294967296) (hb : b < 4294967296) : Go.bits .xor .u32 a b = ((a ^^^ b : Nat) : Int) := by
  have hx : a ^^^ b < 4294967296 := Nat.xor_lt_two_pow (n := 32) ha hb
  show IntKind.u32.wrap ((BitVec.ofInt 32 a ^^^ BitVec.ofInt 32 b).toNat : Int) = _
  rw [BitVec.toNat_xor, BitVec.ofInt_natCast, BitVec.ofInt_natCast, BitVec.toNat_ofNat, BitVec.toNat_ofNat, Nat.mod_eq_of_lt (by omega), Nat.mod_eq_of_lt (by omega), IntKind.wrap_u32]
  omega
theorem bnot32 (a : Nat) (ha : a < 4294967296) : Go.bits .xor .u32 4294967295 a = 4294967295 - (a : Int) := by
  show IntKind.u32.wrap ((BitVec.ofInt 32 4294967295 ^^^ BitVec.ofInt 32 a).toNat : Int) = _
  rw [show BitVec.ofInt 32 4294967295 = BitVec.allOnes 32 from rfl, BitVec.allOnes_xor, BitVec.toNat_not, BitVec.ofInt_natCast, BitVec.toNat_ofNat, Nat.mod_eq_of_lt (by omega), IntKind.wrap_u32]
  omega
theorem band15 (a : Nat) (ha : a < 4294967296) : Go.bits .and .u32 a 15 = ((a % 16 : Nat) : Int) := by
  rw [Go.Proofs.YtmjfoickgcapmaaDoorH.and15_nat, BitVec.ofInt_natCast, BitVec.toNat_ofNat, Nat.mod_eq_of_lt (by omega)]
  rw [show (15 : Nat) = 2 ^ 4 - 1 from rfl, Nat.and_two_pow_sub_one_eq_mod]
theorem nibAt_n (i : Nat) (h : i < 16) : nibAt (i : Int) = (nibN i : Int) := by
  have : ∀ i, i < 16 → tabNIB.getD i 0 = (nibN i : Int) := by decide
  show tabNIB.getD (i : Int).toNat 0 = _
  rw [Int.toNat_natCast]
  exact this i h
theorem implNib (r n : Nat) (hr : r < 4294967296) (hn : n < 256) : Go.bits .xor .u32 (nibAt (Go.bits .and .u32 (Go.bits .xor .u32 r ((n : Int) % 4294967296)) 15)) ((r : Int) / 16) = (snC r n : Int) := by
  rw [show (n : Int) % 4294967296 = (n : Int) by omega, bxor32 r n hr (by omega), band15 _ (Nat.xor_lt_two_pow (n := 32) hr (by omega)), nibAt_n _ (Nat.mod_lt _ (by decide)), show (r : Int) / 16 = ((r / 16 : Nat) : Int) from rfl, bxor32 _ _ ?_ (by omega), snC_nib]
  have : ∀ i, i < 16 → nibN i < 4294967296 := by decide
  exact this _ (Nat.mod_lt _ (by decide))
def crcN (l : List Nat) : Nat := l.foldl byteC 4294967295
def OkL (l : List Int) : Prop := ∀ x ∈ l, 0 ≤ x ∧ x ≤ 255
def natL (l : List Int) : List Nat := l.map Int.toNat
theorem fold_lt (l : List Nat) : ∀ r, r < 4294967296 → l.foldl byteC r < 4294967296 := by
  induction l with
  | nil => intro r h; exact h
  | cons b l ih => intro r h; exact ih _ (byteC_lt h)
theorem rd_nat {l : List Int} (ok : OkL l) (i : Nat) (hi : i < l.length) : ∃ b : Nat, b < 256 ∧ rd l i = (b : Int) ∧ (natL l).drop i = b :: (natL l).drop (i + 1) := by
  have h := ok _ (List.getElem_mem hi)
  refine ⟨l[i].toNat, by omega, by simp [rd, hi]; omega, ?_⟩
  rw [natL, List.drop_eq_getElem_cons (by simpa using hi)]
  simp
theorem implCrc_l {l : List Int} (ok : OkL l) (hl : l.length ≤ 281474976710656) (d : Nat) : ∀ (i r : Nat), i + d = l.length → r < 4294967296 → Ev (fun k => impl_Crc.l0 k r l (l.length : Int) i) (4294967295 - ((List.foldl byteC r ((natL l).drop i) : Nat) : Int)) := by
  induction d with
  | zero =>
    intro i r hi hr
    refine Ev.step (fun k => by simp only [impl_Crc.l0]; rw [if_neg (by omega), bnot32 r hr, w64 (by omega) (by omega)]) ?_
    rw [List.drop_of_length_le (by simp [natL]; omega)]; exact Ev.now _
  | succ d ih =>
    intro i r hi hr
    obtain ⟨b, hb, e, e2⟩ := rd_nat ok i (by omega)
    refine Ev.step (fun k => by simp only [impl_Crc.l0]; rw [if_pos (by omega), if_pos (by omega), if_pos (by omega), e, implNib r b hr hb, show (b : Int) / 16 = ((b / 16 : Nat) : Int) from rfl, implNib (snC r b) (b / 16) (snC_lt hr) (by omega), w64 (by omega) (by omega)]) ?_
    rw [e2, List.foldl_cons]
    exact ih (i + 1) _ (by omega) (byteC_lt hr)
theorem implCrc_ev {l : List Int} (ok : OkL l) (hl : l.length ≤ 281474976710656) : Ev (fun k => impl_Crc.f k l) (4294967295 - (crcN (natL l) : Int)) := by
  simp only [impl_Crc.f]
  exact implCrc_l ok hl l.length 0 4294967295 (by omega) (by omega)
theorem specCrc_1 {l : List Int} (ok : OkL l) (hl : l.length ≤ 281474976710656) (i : Nat) (hi : i < l.length) (b : Nat) (hb : b < 256) (e : rd l i = (b : Int)) (r j : Nat) (hr : r < 4294967296) (hj : j < 8) (k : Nat) : spec_Crc.l1 (k + 1) l r i j = spec_Crc.l1 k l (stC r (b / 2 ^ j) : Nat) i ((j + 1 : Nat) : Int) := by
  have e1 : IntKind.u64.wrap (j : Int) = (j : Int) := by show (j : Int) % 18446744073709551616 = j; omega
  have e2 : shr .u8 (b : Int) (j : Int) = ((b / 2 ^ j : Nat) : Int) := by
    unfold shr
    rw [show min (j : Int).toNat IntKind.u8.bits = j from by show min (j : Int).toNat 8 = j; omega]
    simp
  have hbj : b / 2 ^ j < 256 := Nat.lt_of_le_of_lt (Nat.div_le_self _ _) hb
  generalize b / 2 ^ j = q at e2 hbj ⊢
  simp only [spec_Crc.l1]
  rw [if_pos (by omega), if_pos (by omega), if_pos (by omega), e1, if_pos (by omega), e, e2, w64 (x := (q : Int)) (by omega) (by omega), w64 (x := (r : Int) + (q : Int)) (by omega) (by omega)]
  rw [show Int.tdiv (r : Int) 2 = ((r / 2 : Nat) : Int) from rfl, w64 (x := ((r / 2 : Nat) : Int)) (by omega) (by omega), show (2197175160 : Int) = ((2197175160 : Nat) : Int) from rfl, bxor64 _ _ (by omega) (by omega), w64 (x := (j : Int) + 1) (by omega) (by omega)]
  rw [show Int.tmod ((r : Int) + (q : Int)) 2 = (((r + q) % 2 : Nat) : Int) from rfl]
  unfold stC
  by_cases h : (r + q) % 2 = 1
  · rw [if_pos (by omega), if_pos h]; rfl
  · rw [if_neg (by omega), if_neg h]; rfl
theorem specCrc_b {l : List Int} (ok : OkL l) (hl : l.length ≤ 281474976710656) (i : Nat) (hi : i < l.length) (b : Nat) (hb : b < 256) (e : rd l i = (b : Int)) (r : Nat) (hr : r < 4294967296) (k : Nat) : spec_Crc.l1 (k + 9) l r i 0 = spec_Crc.l0 k l (byteC r b : Nat) ((i + 1 : Nat) : Int) := by
  have s := fun (r j : Nat) (hr : r < 4294967296) (hj : j < 8) (k : Nat) => specCrc_1 ok hl i hi b hb e r j hr hj k
  have h1 := stC_lt (c := b / 2 ^ 0) hr
  have h2 := stC_lt (c := b / 2 ^ 1) h1
  have h3 := stC_lt (c := b / 2 ^ 2) h2
  have h4 := stC_lt (c := b / 2 ^ 3) h3
  have h5 := stC_lt (c := b / 2 ^ 4) h4
  have h6 := stC_lt (c := b / 2 ^ 5) h5
  have h7 := stC_lt (c := b / 2 ^ 6) h6
  have := s r 0 hr (by omega) (k + 8)
  rw [show (((0 : Nat) : Int)) = 0 from rfl] at this
  rw [this, s _ 1 h1 (by omega) (k + 7), s _ 2 h2 (by omega) (k + 6), s _ 3 h3 (by omega) (k + 5), s _ 4 h4 (by omega) (k + 4), s _ 5 h5 (by omega) (k + 3), s _ 6 h6 (by omega) (k + 2), s _ 7 h7 (by omega) (k + 1)]
  have eb : byteC r b = stC (stC (stC (stC (stC (stC (stC (stC r (b / 2 ^ 0)) (b / 2 ^ 1)) (b / 2 ^ 2)) (b / 2 ^ 3)) (b / 2 ^ 4)) (b / 2 ^ 5)) (b / 2 ^ 6)) (b / 2 ^ 7) := by
    unfold byteC snC
    simp [Nat.div_div_eq_div_mul]
  rw [eb]
  simp only [spec_Crc.l1]
  rw [if_neg (by omega), w64 (by omega) (by omega)]
  rfl
theorem specCrc_l {l : List Int} (ok : OkL l) (hl : l.length ≤ 281474976710656) (d : Nat) : ∀ (i r : Nat), i + d = l.length → r < 4294967296 → Ev (fun k => spec_Crc.l0 k l r i) (4294967295 - ((List.foldl byteC r ((natL l).drop i) : Nat) : Int)) := by
  induction d with
  | zero =>
    intro i r hi hr
    refine Ev.step (fun k => by simp only [spec_Crc.l0]; rw [if_neg (by omega), w64 (by omega) (by omega)]) ?_
    rw [List.drop_of_length_le (by simp [natL]; omega)]; exact Ev.now _
  | succ d ih =>
    intro i r hi hr
    obtain ⟨b, hb, e, e2⟩ := rd_nat ok i (by omega)
    rw [e2, List.foldl_cons]
    obtain ⟨K, h⟩ := ih (i + 1) _ (by omega) (byteC_lt (b := b) hr)
    refine ⟨K + 10, fun k hk => ?_⟩
    obtain ⟨m, rfl⟩ : ∃ m, k = m + 10 := ⟨k - 10, by omega⟩
    have := h m (by omega)
    rw [← this]
    show spec_Crc.l0 (m + 9 + 1) l r i = _
    simp only [spec_Crc.l0]
    rw [if_pos (by omega)]
    exact specCrc_b ok hl i (by omega) b hb e r hr m
theorem specCrc_ev {l : List Int} (ok : OkL l) (hl : l.length ≤ 281474976710656) : Ev (fun k => spec_Crc.f k l) (4294967295 - (crcN (natL l) : Int)) := by
  simp only [spec_Crc.f]
  exact specCrc_l ok hl l.length 0 4294967295 (by omega) (by omega)

theorem toByteS_l (x0 : List Int) (hl : x0.length ≤ 281474976710656) (d : Nat) : ∀ (i : Nat) (x3 : List Int), i + d = x0.length → x3.length = x0.length → x3.take i = x0.take i → ∀ k, d < k → laws_toByteS.l0 k x0 x3 i = some x0 := by
  induction d with
  | zero =>
    intro i x3 hi hl3 ht k hk
    obtain ⟨k, rfl⟩ : ∃ m, k = m + 1 := ⟨k - 1, by omega⟩
    simp only [laws_toByteS.l0]
    rw [if_neg (by omega), ← List.take_of_length_le (l := x3) (i := i) (by omega), ht, List.take_of_length_le (by omega)]
  | succ d ih =>
    intro i x3 hi hl3 ht k hk
    obtain ⟨k, rfl⟩ : ∃ m, k = m + 1 := ⟨k - 1, by omega⟩
    simp only [laws_toByteS.l0]
    rw [if_pos (by omega), if_pos (by omega), if_pos (by omega), w64 (by omega) (by omega), Int.toNat_natCast]
    refine ih (i + 1) _ (by omega) (by simpa using hl3) ?_ k (by omega)
    apply List.ext_getElem?
    intro n
    simp only [List.getElem?_take, rd, Int.toNat_natCast]
    by_cases hn : n < i
    · have h1 : (x3.take i)[n]? = (x0.take i)[n]? := by rw [ht]
      simp only [List.getElem?_take, if_pos hn] at h1
      rw [if_pos (by omega), if_pos (by omega), List.getElem?_set_ne (by omega)]; exact h1
    · by_cases hn2 : n = i
      · subst hn2; rw [if_pos (by omega), if_pos (by omega), List.getElem?_set_self (by omega)]
        simp [List.getElem?_eq_getElem (show n < x0.length by omega)]
      · rw [if_neg (by omega), if_neg (by omega)]
theorem toByteS_ev (l : List Int) (hl : l.length ≤ 281474976710656) : Ev (fun k => laws_toByteS.f k l) l := by
  refine ⟨l.length + 1, fun k hk => ?_⟩
  simp only [laws_toByteS.f]
  rw [if_pos (by omega), if_pos (by omega)]
  exact toByteS_l l hl l.length 0 _ (by omega) (by simp) (by simp) k (by omega)

theorem eqByteS_l (x : List Int) (hl : x.length ≤ 281474976710656) (d : Nat) : ∀ (i : Nat), i + d = x.length → ∀ k, d < k → laws_eqByteS.l0 k x x i = some true := by
  induction d with
  | zero =>
    intro i hi k hk
    obtain ⟨k, rfl⟩ : ∃ m, k = m + 1 := ⟨k - 1, by omega⟩
    simp only [laws_eqByteS.l0]
    rw [if_neg (by omega)]
  | succ d ih =>
    intro i hi k hk
    obtain ⟨k, rfl⟩ : ∃ m, k = m + 1 := ⟨k - 1, by omega⟩
    simp only [laws_eqByteS.l0]
    rw [if_pos (by omega), if_pos (by omega), if_pos (by omega), if_pos trivial, w64 (by omega) (by omega)]
    exact ih (i + 1) (by omega) k (by omega)
theorem eqByteS_ev (l : List Int) (hl : l.length ≤ 281474976710656) : Ev (fun k => laws_eqByteS.f k l l) true := by
  refine ⟨l.length + 1, fun k hk => ?_⟩
  simp only [laws_eqByteS.f]
  rw [if_pos trivial]
  exact eqByteS_l l hl l.length 0 (by omega) k (by omega)

theorem FnExactCrc : laws_FnExactCrc.Pure := by
  intro l0 ⟨h1, h2⟩
  apply Ev.rounds
  simp only [laws_FnExactCrc.f]
  by_cases hl : (l0.length : Int) > 1048576
  · exact Ev.pos hl (Ev.now _)
  have ok : OkL l0 := fun x hx => u8_wf (h2 x hx)
  have t := toByteS_ev l0 (by omega)
  refine Ev.neg hl (Ev.bind t (Ev.bind (specCrc_ev ok (by omega)) (Ev.bind t (Ev.bind (implCrc_ev ok (by omega)) (Ev.pos rfl ?_)))))
  exact Ev.bind t (Ev.bind (eqByteS_ev l0 (by omega)) (Ev.pos rfl (Ev.now _)))

end Go.Proofs.YtmjfoickgcapmaaDoor.Pure
