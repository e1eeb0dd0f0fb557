/- Written by give.py, a program of this session, that runs the kit's print and lays contracts proved by hand beside it. -/
import Derived.Test.YtejecjjimggjeaaDoorGFnCrcBytex0
import Derived.Test.YtejecjjimggjeaaDoorGFnCrcBytex1
namespace Go.Proofs.YtejecjjimggjeaaDoor.GFnCrcByte
open Go.RowKit Go.Proofs.YtejecjjimggjeaaDoorW.PrintWords Go.Proofs.YtejecjjimggjeaaDoorW.PrintLast Go.Proofs.YtejecjjimggjeaaDoorW.PrintMore
attribute [local go_sem] max2_int min2_int max_two min_two max_three min_three max_four min_four
attribute [local go_sem high] Go.Proofs.YtejecjjimggjeaaDoorH.str_leq Go.Proofs.YtejecjjimggjeaaDoorH.str_geq Go.Proofs.YtejecjjimggjeaaDoorH.str_gtr   -- for this text's walks alone
set_option linter.unusedVariables false
set_option linter.unusedSimpArgs false

/-! ### laws_FnCrcByte: function 4, by hand -/
def laws_FnCrcByte.g (k : Nat) (d l1 : List Int) : Option (Bool) := (impl_Crc.f k d).bind fun s => ((spec_Crc.f k d).bind fun s2 => if s = s2 then (if d.length = 0 then ((impl_Crc.f k [49, 50, 51, 52, 53, 54, 55, 56, 57]).bind fun c => if c = 3808858755 then some true else none) else ((laws_lwAt.f l1 0 256).bind fun a => ((laws_lwAt.f l1 1 256).bind fun b => ((laws_lwAt.f l1 2 255).bind fun c => if 0 ≤ Int.tmod (wrap64 (wrap64 (a * 256) + b)) (d.length : Int) ∧ Int.tmod (wrap64 (wrap64 (a * 256) + b)) (d.length : Int) < (d.length : Int) then ((impl_Crc.f k (d.set (Int.tmod (wrap64 (wrap64 (a * 256) + b)) (d.length : Int)).toNat (Go.bits .xor .u8 (rd d (Int.tmod (wrap64 (wrap64 (a * 256) + b)) (d.length : Int))) (IntKind.u8.wrap (wrap64 (1 + c)))))).bind fun s3 => if s3 = s then none else some true) else none)))) else none)
def laws_FnCrcByte.f (k : Nat) (l0 l1 : List Int) : Option (Bool) := if l0.all (fun x => decide (0 ≤ x ∧ x ≤ 255)) = true then (if (l0.length : Int) > 1048576 then some true else if (l1.length : Int) > 1048576 then some true else laws_FnCrcByte.g k (if (l0.length : Int) > 2000 then l0.take 2000 else l0) l1) else none
theorem nums_bytes {l : List Int} (h : ∀ x ∈ l, 0 ≤ x ∧ x ≤ 255) : bytesOf (strOfNums l) = l := by
  unfold bytesOf
  rw [strOfNums_data, List.map_map]
  refine (List.map_congr_left (g := id) (fun x hx => ?_)).trans (List.map_id _)
  have hb := h x hx
  show (((UInt8.ofNat x.toNat).toNat : Nat) : Int) = x
  rw [UInt8.toNat_ofNat']
  show (((x.toNat % 256 : Nat)) : Int) = x
  omega
theorem C_cells {W : World} {g : Nat} {d : List Int} (hl : d.length ≤ 9223372036854775807) (h : ∀ j, j < d.length → W.cell? ⟨g, j, none⟩ = some (.int .u8 (rd d (j : Int)))) : (Kd.int .u8).C W (some ⟨g, 0, none⟩) d.length d := by
  refine ⟨rfl, hl, fun _ => ⟨_, rfl, fun j p hj => ⟨[.int .u8 p], rfl, rfl, fun i u hu => ?_⟩⟩⟩
  cases i with
  | zero =>
    simp only [List.getElem?_cons_zero, Option.some.injEq] at hu
    subst hu
    have hjl := (List.getElem?_eq_some_iff.1 hj).1
    have := h j hjl
    rw [show rd d (j : Int) = p by simp [rd, hj]] at this
    have e : (⟨g, 0, none⟩ : Addr).add (j * 1 + 0) = ⟨g, j, none⟩ := by
      unfold Addr.add
      split
      · rename_i h0; rw [show j = 0 by omega]
      · simp
    show W.cell? ((⟨g, 0, none⟩ : Addr).add (j * 1 + 0)) = _
    rw [e]; exact this
  | succ i => simp at hu
theorem conv_row {W : World} {e : TypeId} {d : List Int} (hb : ∀ x ∈ d, 0 ≤ x ∧ x ≤ 255) (hl : d.length ≤ 2000) : (Kd.int .u8).C (Lib.bytesWorld W e (strOfNums d)) (some ⟨W.heap.size, 0, none⟩) d.length d := by
  have h1 := Kd.C_of_reads (enc := Value.int .u8) (d := (0 : Int)) (h1 := fun _ => rfl) (bytes_reads W e (strOfNums d) (by rw [strOfNums_size]; omega))
  rw [nums_bytes hb, strOfNums_size] at h1
  exact h1
theorem conv_same (W : World) (cells : Array Value) (n c : Nat) : (convert 22 22 (.slice (some ⟨W.heap.size, 0, none⟩) n c)).run Tryd.prog (W.alloc (.cells cells 5)) = .ok (.slice (some ⟨W.heap.size, 0, none⟩) n c) ((W.alloc (.cells cells 5)).freeze ⟨W.heap.size, cells.size, none⟩ 1) := by
  have hsh : (W.alloc (.cells cells 5)).shape? W.heap.size = some (5, cells.size) := by
    simp [World.shape?, World.alloc, -World.alloc_eq]
  simp [convert, run_underlying Tryd.underlying22, run_underlying Tryd.underlying5, markStringish, hsh, Result.andThen]
theorem same_at (W : World) (cells : Array Value) (j : Nat) : ((W.alloc (.cells cells 5)).freeze ⟨W.heap.size, cells.size, none⟩ 1).cell? ⟨W.heap.size, j, none⟩ = cells[j]? := by
  simp [World.cell?, World.freeze, World.alloc, -World.alloc_eq]
  rw [Array.getElem_modify_self]
  simp
theorem same_below {w W : World} (h : Below w.heap.size w W) (cells : Array Value) : Below w.heap.size w ((W.alloc (.cells cells 5)).freeze ⟨W.heap.size, cells.size, none⟩ 1) := by
  have h2 := below_alloc h (.cells cells 5)
  refine ⟨h2.os, h2.tape, h2.output, ?_, fun i hi => ?_⟩
  · have := h2.size; simpa [World.freeze] using this
  · refine Eq.trans ?_ (h2.block i hi)
    have hs := h.size
    simp [World.freeze, Array.getElem?_modify, show W.heap.size ≠ i by omega]
set_option maxHeartbeats 16000000 in
set_option maxRecDepth 100000 in
theorem laws_FnCrcByte.main (k : Nat) (A0 : Option Addr) (c0 : Nat) (l0 d : List Int) (A1 : Option Addr) (c1 : Nat) (l1 : List Int) (w : World) (cut : Bool) (hd : d = if cut = true then l0.take 2000 else l0) (hcut : cut = decide ((l0.length : Int) > 2000)) (hr0 : Kd.C (Kd.int .u8) w A0 l0.length l0) (hc0 : l0.length ≤ c0) (hr1 : Kd.C (Kd.int .u8) w A1 l1.length l1) (hc1 : l1.length ≤ c1) (hok : ∀ x ∈ l0, 0 ≤ x ∧ x ≤ 255) (hl0 : ¬ (l0.length : Int) > 1048576) (hl1 : ¬ (l1.length : Int) > 1048576) (h : laws_FnCrcByte.g k d l1 = some true) (hG : Go.Proofs.YtejecjjimggjeaaDoorH.GFNIB w) :
    Calls Tryd.prog 4 #[.slice A0 l0.length c0, .slice A1 l1.length c1] w fun e w' => e = .returned (.bool true) ∧ Below w.heap.size w w' := by
  have hdl : d.length ≤ 2000 ∧ d.length ≤ l0.length := by
    rw [hd]
    cases cut with
    | true => rw [if_pos rfl, List.length_take]; omega
    | false => rw [if_neg (by decide)]; have := of_decide_eq_false hcut.symm; omega
  have hokd : ∀ x ∈ d, 0 ≤ x ∧ x ≤ 255 := fun x hx => hok x (by
    rw [hd] at hx
    cases cut with
    | true => rw [if_pos rfl] at hx; exact List.mem_of_mem_take hx
    | false => rwa [if_neg (by decide)] at hx)
  have HR : Aside0 (Kd.C (Kd.int .u8) w A0 d.length d) := ⟨by
    rw [hd]
    cases cut with
    | true => rw [if_pos rfl]; exact Kd.C_take hr0 (by have := of_decide_eq_true hcut.symm; omega)
    | false => rw [if_neg (by decide)]; exact hr0⟩
  have HC : Aside0 (d.length ≤ c0) := ⟨by omega⟩
  have HC0_ := Aside0.mk hc0
  have HR1 := Aside0.mk hr1
  have HC1 := Aside0.mk hc1
  have HG := Aside0.mk hG
  have HDL := Aside0.mk hdl
  have HOK := Aside0.mk hokd
  obtain ⟨i0, hi0, hz0⟩ := Option.map_eq_some_iff.1 (show (Tryd.prog.info? 5).map (·.size) = some 1 by kernel_rfl)
  have hcv : ∀ (y : ByteArray) (W : World), (convert 9 22 (.string y)).run Tryd.prog W = .ok (.slice (some ⟨W.heap.size, 0, none⟩) y.size (grownCap W y.size 0 5)) (Lib.bytesWorld W 5 y) := fun y W => print_bytes 9 22 5 Tryd.underlying9 Tryd.underlying22 Tryd.underlying5 y W
  have hstr := Kd.C_string (src := 22) (dst := 9) (e := 5) (c := c0) Tryd.underlying22 Tryd.underlying5 Tryd.underlying9 HR.out
  have hsz : (strOfNums d).size = d.length := strOfNums_size d
  have p0 : ((1048576 : Int) < (l0.length : Int)) = False := eq_false hl0
  have p1 : ((1048576 : Int) < (l1.length : Int)) = False := eq_false hl1
  have HCQ : Aside0 (Kd.C (Kd.int .u8) (Lib.bytesWorld w 5 (strOfNums d)) (some ⟨w.heap.size, 0, none⟩) d.length d) := ⟨conv_row hokd hdl.1⟩
  have HCC : Aside0 (d.length ≤ grownCap w d.length 0 5) := ⟨grownCap_ge _ _ _ _⟩
  have HBQ : Aside0 (Below w.heap.size w (Lib.bytesWorld w 5 (strOfNums d))) := ⟨bytes_below (Below.refl _ _) (Nat.le_refl _) _ _⟩
  unfold laws_FnCrcByte.g at h
  obtain ⟨s, hs, h⟩ := Option.bind_eq_some_iff.mp h
  obtain ⟨s2, hs2, h⟩ := Option.bind_eq_some_iff.mp h
  have AS := Aside0.mk hs
  split at h
  · rename_i hse
    subst hse
    have AS2 := Aside0.mk hs2
    clear hs hs2 hr0 hc0 hr1 hc1 hG hokd hok
    by_cases h0 : d.length = 0
    · rw [if_pos h0] at h
      obtain ⟨c, hc, h⟩ := Option.bind_eq_some_iff.mp h
      split at h
      · rename_i hce
        subst hce
        have AN := Aside0.mk hc
        clear hc h
        have q0 : ((d.length : Int) == 0) = true := beq_iff_eq.mpr (by omega)
        have HZ0 := Aside0.mk h0
        clear h0
        cases cut with
        | true =>
          have hlt := of_decide_eq_true hcut.symm
          have p2 : ((2000 : Int) < (l0.length : Int)) = True := eq_true hlt
          have hcut2 := cut_to (P := Tryd.prog) 22 5 .i64 Tryd.underlying22 hi0 A0 l0.length c0 2000 (by omega) (by omega) HC0_.out
          have hd2 : (2000 : Int).toNat = d.length := by rw [hd, if_pos rfl, List.length_take]; show 2000 = _; omega
          rw [hd2] at hcut2
          clear hd hcut hd2 hi0 hz0
          go_enter Tryd.func4, Tryd.ntmps4
          go_upto_region 10 with (first | ((with_reducible refine gate_callee (f := 14) rfl ?_); refine goesL_ (some 26) rfl rfl Tryd.func14 (by kernel_rfl) rfl #[.slice (some ⟨w.heap.size, 0, none⟩) d.length (grownCap w d.length 0 5)] rfl (by (try simp only [List.map_toArray, List.map_cons, List.map_nil]); first | done | rfl) ?_; refine (impl_Crc.calls k (some ⟨w.heap.size, 0, none⟩) _ d s _ HCQ.out HCC.out AS.out (Go.Proofs.YtejecjjimggjeaaDoorH.GFNIB.below HG.out HBQ.out)).mono ?_; rintro e w2 ⟨rfl, hd_⟩; refine ⟨_, rfl, ?_⟩; have hb_ := below_step HBQ.out hd_.below; have HB2 := Aside0.mk hb_; have HR2 := Aside0.mk (Kd.C_below HR.out hb_); clear hb_ hd_) | ((with_reducible refine gate_callee (f := 15) rfl ?_); refine goesL_ (some 29) rfl rfl Tryd.func15 (by kernel_rfl) rfl #[.slice A0 d.length c0] rfl (by (try simp only [List.map_toArray, List.map_cons, List.map_nil]); first | done | rfl) ?_; refine (spec_Crc.calls k A0 c0 d s w2 HR2.out HC.out AS2.out).mono ?_; rintro e w3 ⟨rfl, hd_⟩; refine ⟨_, rfl, ?_⟩; have hb_ := below_step HB2.out hd_.below; have HB3 := Aside0.mk hb_; have HR3 := Aside0.mk (Kd.C_below HR.out hb_); have hstr3 := Kd.C_string (src := 22) (dst := 9) (e := 5) (c := c0) Tryd.underlying22 Tryd.underlying5 Tryd.underlying9 HR3.out; clear hb_ hd_))
          have HB9 := Aside0.mk (same_below HB3.out #[.int .u8 49, .int .u8 50, .int .u8 51, .int .u8 52, .int .u8 53, .int .u8 54, .int .u8 55, .int .u8 56, .int .u8 57])
          have hcs9 := fun n c => conv_same w3 #[.int .u8 49, .int .u8 50, .int .u8 51, .int .u8 52, .int .u8 53, .int .u8 54, .int .u8 55, .int .u8 56, .int .u8 57] n c
          have HC9 : Aside0 (Kd.C (Kd.int .u8) ((w3.alloc (.cells #[.int .u8 49, .int .u8 50, .int .u8 51, .int .u8 52, .int .u8 53, .int .u8 54, .int .u8 55, .int .u8 56, .int .u8 57] 5)).freeze ⟨w3.heap.size, (#[.int .u8 49, .int .u8 50, .int .u8 51, .int .u8 52, .int .u8 53, .int .u8 54, .int .u8 55, .int .u8 56, .int .u8 57] : Array Value).size, none⟩ 1) (some ⟨w3.heap.size, 0, none⟩) 9 [49, 50, 51, 52, 53, 54, 55, 56, 57]) := ⟨C_cells (d := [49, 50, 51, 52, 53, 54, 55, 56, 57]) (by decide) (fun j hj => by
            rw [same_at]
            have hj9 : j < 9 := hj
            rcases (by omega : j = 0 ∨ j = 1 ∨ j = 2 ∨ j = 3 ∨ j = 4 ∨ j = 5 ∨ j = 6 ∨ j = 7 ∨ j = 8) with rfl | rfl | rfl | rfl | rfl | rfl | rfl | rfl | rfl <;> rfl)⟩
          go_wp2_with (first | ((with_reducible refine gate_callee (f := 14) rfl ?_); refine goesL_ (some 36) rfl rfl Tryd.func14 (by kernel_rfl) rfl #[.slice (some ⟨w3.heap.size, 0, none⟩) 9 9] rfl (by (try simp only [List.map_toArray, List.map_cons, List.map_nil]); first | done | rfl) ?_; refine (impl_Crc.calls k (some ⟨w3.heap.size, 0, none⟩) 9 [49, 50, 51, 52, 53, 54, 55, 56, 57] 3808858755 _ HC9.out (by decide) AN.out (Go.Proofs.YtejecjjimggjeaaDoorH.GFNIB.below HG.out HB9.out)).mono ?_; rintro e w10 ⟨rfl, hd_⟩; refine ⟨_, rfl, ?_⟩; have HB10 := Aside0.mk (below_step HB9.out hd_.below); clear hd_))
          go_ret
          exact ⟨rfl, HB10.out⟩
        | false =>
          have hlt := of_decide_eq_false hcut.symm
          have p2 : ((2000 : Int) < (l0.length : Int)) = False := eq_false hlt
          have hd2 : l0.length = d.length := by rw [hd, if_neg (by decide)]
          rw [hd2] at p0 p2 hlt ⊢
          clear hd hcut hd2 hi0 hz0
          go_enter Tryd.func4, Tryd.ntmps4
          go_upto_region 10 with (first | ((with_reducible refine gate_callee (f := 14) rfl ?_); refine goesL_ (some 26) rfl rfl Tryd.func14 (by kernel_rfl) rfl #[.slice (some ⟨w.heap.size, 0, none⟩) d.length (grownCap w d.length 0 5)] rfl (by (try simp only [List.map_toArray, List.map_cons, List.map_nil]); first | done | rfl) ?_; refine (impl_Crc.calls k (some ⟨w.heap.size, 0, none⟩) _ d s _ HCQ.out HCC.out AS.out (Go.Proofs.YtejecjjimggjeaaDoorH.GFNIB.below HG.out HBQ.out)).mono ?_; rintro e w2 ⟨rfl, hd_⟩; refine ⟨_, rfl, ?_⟩; have hb_ := below_step HBQ.out hd_.below; have HB2 := Aside0.mk hb_; have HR2 := Aside0.mk (Kd.C_below HR.out hb_); clear hb_ hd_) | ((with_reducible refine gate_callee (f := 15) rfl ?_); refine goesL_ (some 29) rfl rfl Tryd.func15 (by kernel_rfl) rfl #[.slice A0 d.length c0] rfl (by (try simp only [List.map_toArray, List.map_cons, List.map_nil]); first | done | rfl) ?_; refine (spec_Crc.calls k A0 c0 d s w2 HR2.out HC.out AS2.out).mono ?_; rintro e w3 ⟨rfl, hd_⟩; refine ⟨_, rfl, ?_⟩; have hb_ := below_step HB2.out hd_.below; have HB3 := Aside0.mk hb_; have HR3 := Aside0.mk (Kd.C_below HR.out hb_); have hstr3 := Kd.C_string (src := 22) (dst := 9) (e := 5) (c := c0) Tryd.underlying22 Tryd.underlying5 Tryd.underlying9 HR3.out; clear hb_ hd_))
          have HB9 := Aside0.mk (same_below HB3.out #[.int .u8 49, .int .u8 50, .int .u8 51, .int .u8 52, .int .u8 53, .int .u8 54, .int .u8 55, .int .u8 56, .int .u8 57])
          have hcs9 := fun n c => conv_same w3 #[.int .u8 49, .int .u8 50, .int .u8 51, .int .u8 52, .int .u8 53, .int .u8 54, .int .u8 55, .int .u8 56, .int .u8 57] n c
          have HC9 : Aside0 (Kd.C (Kd.int .u8) ((w3.alloc (.cells #[.int .u8 49, .int .u8 50, .int .u8 51, .int .u8 52, .int .u8 53, .int .u8 54, .int .u8 55, .int .u8 56, .int .u8 57] 5)).freeze ⟨w3.heap.size, (#[.int .u8 49, .int .u8 50, .int .u8 51, .int .u8 52, .int .u8 53, .int .u8 54, .int .u8 55, .int .u8 56, .int .u8 57] : Array Value).size, none⟩ 1) (some ⟨w3.heap.size, 0, none⟩) 9 [49, 50, 51, 52, 53, 54, 55, 56, 57]) := ⟨C_cells (d := [49, 50, 51, 52, 53, 54, 55, 56, 57]) (by decide) (fun j hj => by
            rw [same_at]
            have hj9 : j < 9 := hj
            rcases (by omega : j = 0 ∨ j = 1 ∨ j = 2 ∨ j = 3 ∨ j = 4 ∨ j = 5 ∨ j = 6 ∨ j = 7 ∨ j = 8) with rfl | rfl | rfl | rfl | rfl | rfl | rfl | rfl | rfl <;> rfl)⟩
          go_wp2_with (first | ((with_reducible refine gate_callee (f := 14) rfl ?_); refine goesL_ (some 36) rfl rfl Tryd.func14 (by kernel_rfl) rfl #[.slice (some ⟨w3.heap.size, 0, none⟩) 9 9] rfl (by (try simp only [List.map_toArray, List.map_cons, List.map_nil]); first | done | rfl) ?_; refine (impl_Crc.calls k (some ⟨w3.heap.size, 0, none⟩) 9 [49, 50, 51, 52, 53, 54, 55, 56, 57] 3808858755 _ HC9.out (by decide) AN.out (Go.Proofs.YtejecjjimggjeaaDoorH.GFNIB.below HG.out HB9.out)).mono ?_; rintro e w10 ⟨rfl, hd_⟩; refine ⟨_, rfl, ?_⟩; have HB10 := Aside0.mk (below_step HB9.out hd_.below); clear hd_))
          go_ret
          exact ⟨rfl, HB10.out⟩
      · cases h
    · rw [if_neg h0] at h
      obtain ⟨a, ha, h⟩ := Option.bind_eq_some_iff.mp h
      obtain ⟨b, hb, h⟩ := Option.bind_eq_some_iff.mp h
      obtain ⟨c, hc, h⟩ := Option.bind_eq_some_iff.mp h
      split at h
      · rename_i hi
        obtain ⟨i, hie⟩ : ∃ i : Nat, Int.tmod (wrap64 (wrap64 (a * 256) + b)) (d.length : Int) = (i : Int) := ⟨_, (Int.toNat_of_nonneg hi.1).symm⟩
        rw [hie] at hi h
        rw [Int.toNat_natCast] at h
        obtain ⟨s3, hs3, h⟩ := Option.bind_eq_some_iff.mp h
        have hil : i < d.length := by omega
        obtain ⟨xv, hxv⟩ : ∃ x_, x_ = Go.bits .xor .u8 (rd d (i : Int)) (IntKind.u8.wrap (wrap64 (1 + c))) := ⟨_, rfl⟩
        rw [← hxv] at hs3
        split at h
        · cases h
        · rename_i hne
          have AA := Aside0.mk ha
          have AB := Aside0.mk hb
          have AC := Aside0.mk hc
          have AS3 := Aside0.mk hs3
          have q0 : ((d.length : Int) == 0) = false := beq_eq_false_iff_ne.mpr (by omega)
          have q1 : ((d.length : Int) = 0) = False := eq_false (by omega)
          have q2 : (s3 != s) = true := bne_iff_ne.mpr hne
          have hil1 : (i : Int) < (d.length : Int) := by omega
          have hil0 : (0 : Int) ≤ (i : Int) := by omega
          have HIL := Aside0.mk hil
          have HXV := Aside0.mk hxv
          clear ha hb hc hs3 h0 hi h hxv
          cases cut with
          | true =>
            have hlt := of_decide_eq_true hcut.symm
            have p2 : ((2000 : Int) < (l0.length : Int)) = True := eq_true hlt
            have hcut2 := cut_to (P := Tryd.prog) 22 5 .i64 Tryd.underlying22 hi0 A0 l0.length c0 2000 (by omega) (by omega) HC0_.out
            have hd2 : (2000 : Int).toNat = d.length := by rw [hd, if_pos rfl, List.length_take]; show 2000 = _; omega
            rw [hd2] at hcut2
            clear hd hcut hd2 hi0 hz0
            go_enter Tryd.func4, Tryd.ntmps4
            go_upto_region 12 with (first | ((with_reducible refine gate_callee (f := 14) rfl ?_); refine goesL_ (some 26) rfl rfl Tryd.func14 (by kernel_rfl) rfl #[.slice (some ⟨w.heap.size, 0, none⟩) d.length (grownCap w d.length 0 5)] rfl (by (try simp only [List.map_toArray, List.map_cons, List.map_nil]); first | done | rfl) ?_; refine (impl_Crc.calls k (some ⟨w.heap.size, 0, none⟩) _ d s _ HCQ.out HCC.out AS.out (Go.Proofs.YtejecjjimggjeaaDoorH.GFNIB.below HG.out HBQ.out)).mono ?_; rintro e w2 ⟨rfl, hd_⟩; refine ⟨_, rfl, ?_⟩; have hb_ := below_step HBQ.out hd_.below; have HB2 := Aside0.mk hb_; have HR2 := Aside0.mk (Kd.C_below HR.out hb_); clear hb_ hd_) | ((with_reducible refine gate_callee (f := 15) rfl ?_); refine goesL_ (some 29) rfl rfl Tryd.func15 (by kernel_rfl) rfl #[.slice A0 d.length c0] rfl (by (try simp only [List.map_toArray, List.map_cons, List.map_nil]); first | done | rfl) ?_; refine (spec_Crc.calls k A0 c0 d s w2 HR2.out HC.out AS2.out).mono ?_; rintro e w3 ⟨rfl, hd_⟩; refine ⟨_, rfl, ?_⟩; have hb_ := below_step HB2.out hd_.below; have HB3 := Aside0.mk hb_; have HR3 := Aside0.mk (Kd.C_below HR.out hb_); have hstr3 := Kd.C_string (src := 22) (dst := 9) (e := 5) (c := c0) Tryd.underlying22 Tryd.underlying5 Tryd.underlying9 HR3.out; clear hb_ hd_))
            have HBC := Aside0.mk (bytes_below HB3.out HB3.out.size 5 (strOfNums d))
            have HBN := Aside0.mk (Lib.bytesWorld_at_new w3 5 (strOfNums d))
            have HBB := Aside0.mk (bytes_below (Below.refl w3.heap.size w3) (Nat.le_refl _) 5 (strOfNums d))
            have HL5 := Aside0.mk (Kd.C_below (Kd.C_below HR1.out HB3.out) HBB.out)
            have HGE := Aside0.mk (show w.heap.size ≤ w3.heap.size from HB3.out.size)
            have HQC := Aside0.mk (show d.length ≤ grownCap w3 d.length 0 5 from grownCap_ge _ _ _ _)
            have HBS : Aside0 ((Lib.bytesCells w3 5 (strOfNums d)).size = max d.length (grownCap w3 d.length 0 5)) := ⟨by unfold Lib.bytesCells; rw [Array.size_append, Array.size_map, Array.size_replicate]; show (strOfNums d).size + (grownCap w3 (strOfNums d).size 0 5 - (strOfNums d).size) = _; rw [hsz]; omega⟩
            have HBX : Aside0 (∀ j, j < d.length → (Lib.bytesCells w3 5 (strOfNums d))[j]? = some (.int .u8 (rd d (j : Int)))) := ⟨fun j hj => by
              have h1 := Lib.bytesWorld_cell w3 5 (strOfNums d) j (by rw [hsz]; exact hj)
              have h2 : (Lib.bytesWorld w3 5 (strOfNums d)).cell? ⟨w3.heap.size, j, none⟩ = (Lib.bytesCells w3 5 (strOfNums d))[j]? := by
                unfold World.cell?
                rw [HBN.out]
                rfl
              rw [← h2, h1]
              have h3 := congrArg (fun l => l.getD j 0) (nums_bytes HOK.out)
              rw [strOfNums_data]
              have h4 := HOK.out d[j] (List.getElem_mem hj)
              simp only [rd, List.getD_eq_getElem?_getD, List.getElem?_map, List.getElem?_eq_getElem hj, Int.toNat_natCast, Option.map_some, Option.getD_some, UInt8.toNat_ofNat']
              congr 2
              show (((d[j].toNat % 256 : Nat)) : Int) = d[j]
              omega⟩
            obtain ⟨cs, hcs⟩ : ∃ c_, c_ = Lib.bytesCells w3 5 (strOfNums d) := ⟨_, rfl⟩
            rw [← hcs] at HBN HBS HBX
            clear hcs
            generalize Lib.bytesWorld w3 5 (strOfNums d) = w5 at HBC HBN HBB HL5 ⊢
            generalize grownCap w3 d.length 0 5 = cq at HQC HBS ⊢
            have HB5 := Aside0.mk HBC.out
            have HG5 := Aside0.mk HBN.out
            generalize w3.heap.size = g7 at HG5 HGE ⊢
            clear HBC HBN HBB hstr3 HR3 HB3 HR2 HB2
            have HCE : Aside0 (∀ W : World, W.heap[g7]? = some (.cells cs 5 (cs.size, cs.size + 1)) → ∀ j, j < d.length → W.cell? ⟨g7, j, none⟩ = some (.int .u8 (rd d (j : Int)))) := ⟨fun W hW j hj => by
              unfold World.cell?
              rw [hW]
              exact HBX.out j hj⟩
            have HFZ : Aside0 (∀ W : World, W.heap[g7]? = some (.cells cs 5 (cs.size, cs.size + 1)) → ∀ j, j < d.length → W.frozen? ⟨g7, j, none⟩ = false) := ⟨fun W hW j hj => by
              have := HBS.out
              unfold World.frozen?
              rw [hW]
              simp
              omega⟩
            go_upto_region 13 with (first | ((with_reducible refine gate_callee (f := 16) rfl ?_); refine goesL_ (some 42) rfl rfl Tryd.func16 (by kernel_rfl) rfl #[.slice A1 l1.length c1, .int .i64 0, .int .i64 256] rfl (by (try simp only [List.map_toArray, List.map_cons, List.map_nil]); first | done | rfl) ?_; refine (laws_lwAt.calls A1 c1 l1 0 256 a w5 HL5.out HC1.out AA.out).mono ?_; rintro e w6 ⟨rfl, hd_⟩; refine ⟨_, rfl, ?_⟩; have hb_ := hd_.below; have HL6 := Aside0.mk (Kd.C_below HL5.out hb_); have HB6 := Aside0.mk (below_step HB5.out hb_); have HG6 := Aside0.mk (blk_below HG5.out hb_); clear hb_ hd_) | ((with_reducible refine gate_callee (f := 16) rfl ?_); refine goesL_ (some 45) rfl rfl Tryd.func16 (by kernel_rfl) rfl #[.slice A1 l1.length c1, .int .i64 1, .int .i64 256] rfl (by (try simp only [List.map_toArray, List.map_cons, List.map_nil]); first | done | rfl) ?_; refine (laws_lwAt.calls A1 c1 l1 1 256 b w6 HL6.out HC1.out AB.out).mono ?_; rintro e w7 ⟨rfl, hd_⟩; refine ⟨_, rfl, ?_⟩; have hb_ := hd_.below; have HL7 := Aside0.mk (Kd.C_below HL6.out hb_); have HB7 := Aside0.mk (below_step HB6.out hb_); have HG7 := Aside0.mk (blk_below HG6.out hb_); clear hb_ hd_))
            have hx7 := HCE.out w7 HG7.out i HIL.out
            refine start_ (n := 13) (S := fun w' => w'.cell? ⟨g7, i, none⟩ = some (.int .u8 (rd d (i : Int)))) (ds := [12]) #[false, false, false, false, false, false, false, false, false, false, false, false, false] (by kernel_rfl) rfl rfl (hx7) (fun hHeld => ?_)
            have HL7d := Aside0.mk (Kd.C_below HL7.out (below_drew (Below.refl _ _))); have HB7d := Aside0.mk (below_drew HB7.out); have HG7d := Aside0.mk (blk_drew HG7.out); clear HL7 HB7 HG7 hx7; generalize w7.drew = w8 at HL7d HB7d HG7d hHeld ⊢
            refine pure_ (i := 0) (N := some 50) (v := ?_) (a' := ?_) #[true, false, false, false, false, false, false, false, false, false, false, false, false] rfl rfl (by kernel_rfl) (fun _ _ _ h => h) (Or.inl ⟨by rfl, ?_⟩) ?_ ?_
            rotate_left
            · intro w'
              go_simp
              with_reducible rfl
            rotate_left
            · simp only [Act.put, List.setIfInBounds_toArray, List.set_cons_zero, List.set_cons_succ, i64_w, i32_w]
              rfl
            refine pure_ (i := 1) (N := some 51) (v := ?_) (a' := ?_) #[true, true, false, false, false, false, false, false, false, false, false, false, false] rfl rfl (by kernel_rfl) (fun _ _ _ h => h) (Or.inl ⟨by rfl, ?_⟩) ?_ ?_
            rotate_left
            · intro w'
              go_simp
              with_reducible rfl
            rotate_left
            · simp only [Act.put, List.setIfInBounds_toArray, List.set_cons_zero, List.set_cons_succ, i64_w, i32_w]
              rfl
            refine pure_ (i := 2) (N := some 52) (v := ?_) (a' := ?_) #[true, true, true, false, false, false, false, false, false, false, false, false, false] rfl rfl (by kernel_rfl) (fun _ _ _ h => h) (Or.inl ⟨by rfl, ?_⟩) ?_ ?_
            rotate_left
            · intro w'
              go_simp
              with_reducible rfl
            rotate_left
            · simp only [Act.put, List.setIfInBounds_toArray, List.set_cons_zero, List.set_cons_succ, i64_w, i32_w]
              rfl
            refine pure_ (i := 3) (N := some 53) (v := ?_) (a' := ?_) #[true, true, true, true, false, false, false, false, false, false, false, false, false] rfl rfl (by kernel_rfl) (fun _ _ _ h => h) (Or.inl ⟨by rfl, ?_⟩) ?_ ?_
            rotate_left
            · intro w'
              go_simp
              with_reducible rfl
            rotate_left
            · simp only [Act.put, List.setIfInBounds_toArray, List.set_cons_zero, List.set_cons_succ, i64_w, i32_w]
              rfl
            refine pure_ (i := 4) (N := some 54) (v := ?_) (a' := ?_) #[true, true, true, true, true, false, false, false, false, false, false, false, false] rfl rfl (by kernel_rfl) (fun _ _ _ h => h) (Or.inl ⟨by rfl, ?_⟩) ?_ ?_
            rotate_left
            · intro w'
              go_simp
              with_reducible rfl
            rotate_left
            · simp only [Act.put, List.setIfInBounds_toArray, List.set_cons_zero, List.set_cons_succ, i64_w, i32_w]
              rfl
            refine pure_ (i := 6) (N := some 56) (v := ?_) (a' := ?_) #[true, true, true, true, true, false, true, false, false, false, false, false, false] rfl rfl (by kernel_rfl) (fun _ _ _ h => h) (Or.inl ⟨by rfl, ?_⟩) ?_ ?_
            rotate_left
            · intro w'
              go_simp
              with_reducible rfl
            rotate_left
            · simp only [Act.put, List.setIfInBounds_toArray, List.set_cons_zero, List.set_cons_succ, i64_w, i32_w]
              rfl
            refine take_ (i := 5) (N := some 55) (v := ?_) (a' := ?_) #[true, true, true, true, true, true, true, false, false, false, false, false, false] rfl rfl (by kernel_rfl) (fun _ _ _ h => h) (Or.inl ⟨by rfl, ?_⟩) hHeld ?_ ?_
            rotate_left
            · intro w' s0
              go_simp
              with_reducible rfl
            rotate_left
            · simp only [Act.put, List.setIfInBounds_toArray, List.set_cons_zero, List.set_cons_succ, i64_w, i32_w]
              rfl
            refine one_ (i := 7) (N := some 57) #[true, true, true, true, true, true, true, true, false, false, false, false, false] rfl rfl (by kernel_rfl) (by decide) (fun K hK => ?_)
            refine goes_ Tryd.func16 (by kernel_rfl) rfl #[.slice A1 l1.length c1, .int .i64 2, .int .i64 255] (by rfl) rfl rfl (by (try simp only [List.map_toArray, List.map_cons, List.map_nil]); first | done | rfl) ?_
            refine (laws_lwAt.calls A1 c1 l1 2 255 c w8 HL7d.out HC1.out AC.out).mono ?_
            rintro e w9 ⟨rfl, hd_⟩
            refine ⟨_, rfl, ?_⟩
            have hb_ := hd_.below
            have HB9 := Aside0.mk (below_step HB7d.out hb_)
            have HG9 := Aside0.mk (blk_below HG7d.out hb_)
            clear hb_ hd_
            have hx9 := (HCE.out w9 HG9.out) i HIL.out
            refine hK.out _ _ hx9 (fun hHeld => ?_)
            clear hK K
            refine norm_ (a' := ?_) ?_ ?_
            rotate_left
            · show Act.put _ (some 57) _ = _
              simp only [Act.put, List.setIfInBounds_toArray, List.set_cons_zero, List.set_cons_succ, i64_w, i32_w]
              rfl
            refine pure_ (i := 8) (N := some 58) (v := ?_) (a' := ?_) #[true, true, true, true, true, true, true, true, true, false, false, false, false] rfl rfl (by kernel_rfl) (fun _ _ _ h => h) (Or.inl ⟨by rfl, ?_⟩) ?_ ?_
            rotate_left
            · intro w'
              go_simp
              with_reducible rfl
            rotate_left
            · simp only [Act.put, List.setIfInBounds_toArray, List.set_cons_zero, List.set_cons_succ, i64_w, i32_w]
              rfl
            refine pure_ (i := 9) (N := some 59) (v := ?_) (a' := ?_) #[true, true, true, true, true, true, true, true, true, true, false, false, false] rfl rfl (by kernel_rfl) (fun _ _ _ h => h) (Or.inl ⟨by rfl, ?_⟩) ?_ ?_
            rotate_left
            · intro w'
              go_simp
              with_reducible rfl
            rotate_left
            · simp only [Act.put, List.setIfInBounds_toArray, List.set_cons_zero, List.set_cons_succ, i64_w, i32_w]
              rfl
            refine pure_ (i := 10) (N := some 60) (v := ?_) (a' := ?_) #[true, true, true, true, true, true, true, true, true, true, true, false, false] rfl rfl (by kernel_rfl) (fun _ _ _ h => h) (Or.inl ⟨by rfl, ?_⟩) ?_ ?_
            rotate_left
            · intro w'
              go_simp
              with_reducible rfl
            rotate_left
            · simp only [Act.put, List.setIfInBounds_toArray, List.set_cons_zero, List.set_cons_succ, i64_w, i32_w]
              rfl
            refine pure_ (i := 11) (N := some 61) (v := ?_) (a' := ?_) #[true, true, true, true, true, true, true, true, true, true, true, true, false] rfl rfl (by kernel_rfl) (fun _ _ _ h => h) (Or.inl ⟨by rfl, ?_⟩) ?_ ?_
            rotate_left
            · intro w'
              go_simp
              with_reducible rfl
            rotate_left
            · simp only [Act.put, List.setIfInBounds_toArray, List.set_cons_zero, List.set_cons_succ, i64_w, i32_w]
              rfl
            refine last_ (i := 12) (N := none) #[true, true, true, true, true, true, true, true, true, true, true, true, true] rfl rfl (by kernel_rfl) (by decide) (fun K hK => ?_)
            have hf9 := HFZ.out w9 HG9.out i HIL.out
            refine skip_ (w1 := w9.setCell ⟨g7, i, none⟩ (.int .u8 xv)) (by rfl) rfl ?_ ?_
            · rw [HXV.out]
              go_simp
            refine hK.out _ _ ?_
            clear hK K
            refine done_ (by kernel_rfl) ?_
            have HBS9 := Aside0.mk (below_set (g := g7) (j := i) (v := .int .u8 xv) HB9.out HGE.out)
            have HCS : Aside0 (Kd.C (Kd.int .u8) (w9.setCell ⟨g7, i, none⟩ (.int .u8 xv)) (some ⟨g7, 0, none⟩) (d.set i xv).length (d.set i xv)) := ⟨C_cells (by rw [List.length_set]; have := HDL.out; omega) (fun j hj => by
              rw [List.length_set] at hj
              have hh : (w9.setCell ⟨g7, i, none⟩ (.int .u8 xv)).heap[g7]? = some (.cells (cs.setIfInBounds i (.int .u8 xv)) 5 (cs.size, cs.size + 1)) := by
                simp [World.setCell, Array.getElem?_modify, HG9.out]
              unfold World.cell?
              rw [hh]
              show (cs.setIfInBounds i (.int .u8 xv))[j]? = _
              have hcl := HBS.out
              by_cases hji : i = j
              · subst hji
                rw [Array.getElem?_setIfInBounds_self_of_lt (by omega)]
                simp [rd, hj]
              · rw [Array.getElem?_setIfInBounds_ne hji, HBX.out j hj]
                simp [rd, List.getElem?_set_ne hji])⟩
            have hcrc := impl_Crc.calls k (some ⟨g7, 0, none⟩) cq (d.set i xv) s3 _ HCS.out (by rw [List.length_set]; exact HQC.out) AS3.out (Go.Proofs.YtejecjjimggjeaaDoorH.GFNIB.below HG.out HBS9.out)
            rw [List.length_set] at hcrc
            have HCRC := Aside0.mk hcrc
            clear hcrc
            generalize w9.setCell ⟨g7, i, none⟩ (.int .u8 xv) = w11 at HBS9 HCS HCRC ⊢
            go_wp2_with (first | ((with_reducible refine gate_callee (f := 14) rfl ?_); refine goesL_ (some 63) rfl rfl Tryd.func14 (by kernel_rfl) rfl #[.slice (some ⟨g7, 0, none⟩) d.length cq] rfl (by (try simp only [List.map_toArray, List.map_cons, List.map_nil]); first | done | rfl) ?_; refine (HCRC.out).mono ?_; rintro e w10 ⟨rfl, hd_⟩; refine ⟨_, rfl, ?_⟩; have HB10 := Aside0.mk (below_step HBS9.out hd_.below); clear hd_))
            go_ret
            exact ⟨rfl, HB10.out⟩
          | false =>
            have hlt := of_decide_eq_false hcut.symm
            have p2 : ((2000 : Int) < (l0.length : Int)) = False := eq_false hlt
            have hd2 : l0.length = d.length := by rw [hd, if_neg (by decide)]
            rw [hd2] at p0 p2 hlt ⊢
            clear hd hcut hd2 hi0 hz0
            go_enter Tryd.func4, Tryd.ntmps4
            go_upto_region 12 with (first | ((with_reducible refine gate_callee (f := 14) rfl ?_); refine goesL_ (some 26) rfl rfl Tryd.func14 (by kernel_rfl) rfl #[.slice (some ⟨w.heap.size, 0, none⟩) d.length (grownCap w d.length 0 5)] rfl (by (try simp only [List.map_toArray, List.map_cons, List.map_nil]); first | done | rfl) ?_; refine (impl_Crc.calls k (some ⟨w.heap.size, 0, none⟩) _ d s _ HCQ.out HCC.out AS.out (Go.Proofs.YtejecjjimggjeaaDoorH.GFNIB.below HG.out HBQ.out)).mono ?_; rintro e w2 ⟨rfl, hd_⟩; refine ⟨_, rfl, ?_⟩; have hb_ := below_step HBQ.out hd_.below; have HB2 := Aside0.mk hb_; have HR2 := Aside0.mk (Kd.C_below HR.out hb_); clear hb_ hd_) | ((with_reducible refine gate_callee (f := 15) rfl ?_); refine goesL_ (some 29) rfl rfl Tryd.func15 (by kernel_rfl) rfl #[.slice A0 d.length c0] rfl (by (try simp only [List.map_toArray, List.map_cons, List.map_nil]); first | done | rfl) ?_; refine (spec_Crc.calls k A0 c0 d s w2 HR2.out HC.out AS2.out).mono ?_; rintro e w3 ⟨rfl, hd_⟩; refine ⟨_, rfl, ?_⟩; have hb_ := below_step HB2.out hd_.below; have HB3 := Aside0.mk hb_; have HR3 := Aside0.mk (Kd.C_below HR.out hb_); have hstr3 := Kd.C_string (src := 22) (dst := 9) (e := 5) (c := c0) Tryd.underlying22 Tryd.underlying5 Tryd.underlying9 HR3.out; clear hb_ hd_))
            have HBC := Aside0.mk (bytes_below HB3.out HB3.out.size 5 (strOfNums d))
            have HBN := Aside0.mk (Lib.bytesWorld_at_new w3 5 (strOfNums d))
            have HBB := Aside0.mk (bytes_below (Below.refl w3.heap.size w3) (Nat.le_refl _) 5 (strOfNums d))
            have HL5 := Aside0.mk (Kd.C_below (Kd.C_below HR1.out HB3.out) HBB.out)
            have HGE := Aside0.mk (show w.heap.size ≤ w3.heap.size from HB3.out.size)
            have HQC := Aside0.mk (show d.length ≤ grownCap w3 d.length 0 5 from grownCap_ge _ _ _ _)
            have HBS : Aside0 ((Lib.bytesCells w3 5 (strOfNums d)).size = max d.length (grownCap w3 d.length 0 5)) := ⟨by unfold Lib.bytesCells; rw [Array.size_append, Array.size_map, Array.size_replicate]; show (strOfNums d).size + (grownCap w3 (strOfNums d).size 0 5 - (strOfNums d).size) = _; rw [hsz]; omega⟩
            have HBX : Aside0 (∀ j, j < d.length → (Lib.bytesCells w3 5 (strOfNums d))[j]? = some (.int .u8 (rd d (j : Int)))) := ⟨fun j hj => by
              have h1 := Lib.bytesWorld_cell w3 5 (strOfNums d) j (by rw [hsz]; exact hj)
              have h2 : (Lib.bytesWorld w3 5 (strOfNums d)).cell? ⟨w3.heap.size, j, none⟩ = (Lib.bytesCells w3 5 (strOfNums d))[j]? := by
                unfold World.cell?
                rw [HBN.out]
                rfl
              rw [← h2, h1]
              have h3 := congrArg (fun l => l.getD j 0) (nums_bytes HOK.out)
              rw [strOfNums_data]
              have h4 := HOK.out d[j] (List.getElem_mem hj)
              simp only [rd, List.getD_eq_getElem?_getD, List.getElem?_map, List.getElem?_eq_getElem hj, Int.toNat_natCast, Option.map_some, Option.getD_some, UInt8.toNat_ofNat']
              congr 2
              show (((d[j].toNat % 256 : Nat)) : Int) = d[j]
              omega⟩
            obtain ⟨cs, hcs⟩ : ∃ c_, c_ = Lib.bytesCells w3 5 (strOfNums d) := ⟨_, rfl⟩
            rw [← hcs] at HBN HBS HBX
            clear hcs
            generalize Lib.bytesWorld w3 5 (strOfNums d) = w5 at HBC HBN HBB HL5 ⊢
            generalize grownCap w3 d.length 0 5 = cq at HQC HBS ⊢
            have HB5 := Aside0.mk HBC.out
            have HG5 := Aside0.mk HBN.out
            generalize w3.heap.size = g7 at HG5 HGE ⊢
            clear HBC HBN HBB hstr3 HR3 HB3 HR2 HB2
            have HCE : Aside0 (∀ W : World, W.heap[g7]? = some (.cells cs 5 (cs.size, cs.size + 1)) → ∀ j, j < d.length → W.cell? ⟨g7, j, none⟩ = some (.int .u8 (rd d (j : Int)))) := ⟨fun W hW j hj => by
              unfold World.cell?
              rw [hW]
              exact HBX.out j hj⟩
            have HFZ : Aside0 (∀ W : World, W.heap[g7]? = some (.cells cs 5 (cs.size, cs.size + 1)) → ∀ j, j < d.length → W.frozen? ⟨g7, j, none⟩ = false) := ⟨fun W hW j hj => by
              have := HBS.out
              unfold World.frozen?
              rw [hW]
              simp
              omega⟩
            go_upto_region 13 with (first | ((with_reducible refine gate_callee (f := 16) rfl ?_); refine goesL_ (some 42) rfl rfl Tryd.func16 (by kernel_rfl) rfl #[.slice A1 l1.length c1, .int .i64 0, .int .i64 256] rfl (by (try simp only [List.map_toArray, List.map_cons, List.map_nil]); first | done | rfl) ?_; refine (laws_lwAt.calls A1 c1 l1 0 256 a w5 HL5.out HC1.out AA.out).mono ?_; rintro e w6 ⟨rfl, hd_⟩; refine ⟨_, rfl, ?_⟩; have hb_ := hd_.below; have HL6 := Aside0.mk (Kd.C_below HL5.out hb_); have HB6 := Aside0.mk (below_step HB5.out hb_); have HG6 := Aside0.mk (blk_below HG5.out hb_); clear hb_ hd_) | ((with_reducible refine gate_callee (f := 16) rfl ?_); refine goesL_ (some 45) rfl rfl Tryd.func16 (by kernel_rfl) rfl #[.slice A1 l1.length c1, .int .i64 1, .int .i64 256] rfl (by (try simp only [List.map_toArray, List.map_cons, List.map_nil]); first | done | rfl) ?_; refine (laws_lwAt.calls A1 c1 l1 1 256 b w6 HL6.out HC1.out AB.out).mono ?_; rintro e w7 ⟨rfl, hd_⟩; refine ⟨_, rfl, ?_⟩; have hb_ := hd_.below; have HL7 := Aside0.mk (Kd.C_below HL6.out hb_); have HB7 := Aside0.mk (below_step HB6.out hb_); have HG7 := Aside0.mk (blk_below HG6.out hb_); clear hb_ hd_))
            have hx7 := HCE.out w7 HG7.out i HIL.out
            refine start_ (n := 13) (S := fun w' => w'.cell? ⟨g7, i, none⟩ = some (.int .u8 (rd d (i : Int)))) (ds := [12]) #[false, false, false, false, false, false, false, false, false, false, false, false, false] (by kernel_rfl) rfl rfl (hx7) (fun hHeld => ?_)
            have HL7d := Aside0.mk (Kd.C_below HL7.out (below_drew (Below.refl _ _))); have HB7d := Aside0.mk (below_drew HB7.out); have HG7d := Aside0.mk (blk_drew HG7.out); clear HL7 HB7 HG7 hx7; generalize w7.drew = w8 at HL7d HB7d HG7d hHeld ⊢
            refine pure_ (i := 0) (N := some 50) (v := ?_) (a' := ?_) #[true, false, false, false, false, false, false, false, false, false, false, false, false] rfl rfl (by kernel_rfl) (fun _ _ _ h => h) (Or.inl ⟨by rfl, ?_⟩) ?_ ?_
            rotate_left
            · intro w'
              go_simp
              with_reducible rfl
            rotate_left
            · simp only [Act.put, List.setIfInBounds_toArray, List.set_cons_zero, List.set_cons_succ, i64_w, i32_w]
              rfl
            refine pure_ (i := 1) (N := some 51) (v := ?_) (a' := ?_) #[true, true, false, false, false, false, false, false, false, false, false, false, false] rfl rfl (by kernel_rfl) (fun _ _ _ h => h) (Or.inl ⟨by rfl, ?_⟩) ?_ ?_
            rotate_left
            · intro w'
              go_simp
              with_reducible rfl
            rotate_left
            · simp only [Act.put, List.setIfInBounds_toArray, List.set_cons_zero, List.set_cons_succ, i64_w, i32_w]
              rfl
            refine pure_ (i := 2) (N := some 52) (v := ?_) (a' := ?_) #[true, true, true, false, false, false, false, false, false, false, false, false, false] rfl rfl (by kernel_rfl) (fun _ _ _ h => h) (Or.inl ⟨by rfl, ?_⟩) ?_ ?_
            rotate_left
            · intro w'
              go_simp
              with_reducible rfl
            rotate_left
            · simp only [Act.put, List.setIfInBounds_toArray, List.set_cons_zero, List.set_cons_succ, i64_w, i32_w]
              rfl
            refine pure_ (i := 3) (N := some 53) (v := ?_) (a' := ?_) #[true, true, true, true, false, false, false, false, false, false, false, false, false] rfl rfl (by kernel_rfl) (fun _ _ _ h => h) (Or.inl ⟨by rfl, ?_⟩) ?_ ?_
            rotate_left
            · intro w'
              go_simp
              with_reducible rfl
            rotate_left
            · simp only [Act.put, List.setIfInBounds_toArray, List.set_cons_zero, List.set_cons_succ, i64_w, i32_w]
              rfl
            refine pure_ (i := 4) (N := some 54) (v := ?_) (a' := ?_) #[true, true, true, true, true, false, false, false, false, false, false, false, false] rfl rfl (by kernel_rfl) (fun _ _ _ h => h) (Or.inl ⟨by rfl, ?_⟩) ?_ ?_
            rotate_left
            · intro w'
              go_simp
              with_reducible rfl
            rotate_left
            · simp only [Act.put, List.setIfInBounds_toArray, List.set_cons_zero, List.set_cons_succ, i64_w, i32_w]
              rfl
            refine pure_ (i := 6) (N := some 56) (v := ?_) (a' := ?_) #[true, true, true, true, true, false, true, false, false, false, false, false, false] rfl rfl (by kernel_rfl) (fun _ _ _ h => h) (Or.inl ⟨by rfl, ?_⟩) ?_ ?_
            rotate_left
            · intro w'
              go_simp
              with_reducible rfl
            rotate_left
            · simp only [Act.put, List.setIfInBounds_toArray, List.set_cons_zero, List.set_cons_succ, i64_w, i32_w]
              rfl
            refine take_ (i := 5) (N := some 55) (v := ?_) (a' := ?_) #[true, true, true, true, true, true, true, false, false, false, false, false, false] rfl rfl (by kernel_rfl) (fun _ _ _ h => h) (Or.inl ⟨by rfl, ?_⟩) hHeld ?_ ?_
            rotate_left
            · intro w' s0
              go_simp
              with_reducible rfl
            rotate_left
            · simp only [Act.put, List.setIfInBounds_toArray, List.set_cons_zero, List.set_cons_succ, i64_w, i32_w]
              rfl
            refine one_ (i := 7) (N := some 57) #[true, true, true, true, true, true, true, true, false, false, false, false, false] rfl rfl (by kernel_rfl) (by decide) (fun K hK => ?_)
            refine goes_ Tryd.func16 (by kernel_rfl) rfl #[.slice A1 l1.length c1, .int .i64 2, .int .i64 255] (by rfl) rfl rfl (by (try simp only [List.map_toArray, List.map_cons, List.map_nil]); first | done | rfl) ?_
            refine (laws_lwAt.calls A1 c1 l1 2 255 c w8 HL7d.out HC1.out AC.out).mono ?_
            rintro e w9 ⟨rfl, hd_⟩
            refine ⟨_, rfl, ?_⟩
            have hb_ := hd_.below
            have HB9 := Aside0.mk (below_step HB7d.out hb_)
            have HG9 := Aside0.mk (blk_below HG7d.out hb_)
            clear hb_ hd_
            have hx9 := (HCE.out w9 HG9.out) i HIL.out
            refine hK.out _ _ hx9 (fun hHeld => ?_)
            clear hK K
            refine norm_ (a' := ?_) ?_ ?_
            rotate_left
            · show Act.put _ (some 57) _ = _
              simp only [Act.put, List.setIfInBounds_toArray, List.set_cons_zero, List.set_cons_succ, i64_w, i32_w]
              rfl
            refine pure_ (i := 8) (N := some 58) (v := ?_) (a' := ?_) #[true, true, true, true, true, true, true, true, true, false, false, false, false] rfl rfl (by kernel_rfl) (fun _ _ _ h => h) (Or.inl ⟨by rfl, ?_⟩) ?_ ?_
            rotate_left
            · intro w'
              go_simp
              with_reducible rfl
            rotate_left
            · simp only [Act.put, List.setIfInBounds_toArray, List.set_cons_zero, List.set_cons_succ, i64_w, i32_w]
              rfl
            refine pure_ (i := 9) (N := some 59) (v := ?_) (a' := ?_) #[true, true, true, true, true, true, true, true, true, true, false, false, false] rfl rfl (by kernel_rfl) (fun _ _ _ h => h) (Or.inl ⟨by rfl, ?_⟩) ?_ ?_
            rotate_left
            · intro w'
              go_simp
              with_reducible rfl
            rotate_left
            · simp only [Act.put, List.setIfInBounds_toArray, List.set_cons_zero, List.set_cons_succ, i64_w, i32_w]
              rfl
            refine pure_ (i := 10) (N := some 60) (v := ?_) (a' := ?_) #[true, true, true, true, true, true, true, true, true, true, true, false, false] rfl rfl (by kernel_rfl) (fun _ _ _ h => h) (Or.inl ⟨by rfl, ?_⟩) ?_ ?_
            rotate_left
            · intro w'
              go_simp
              with_reducible rfl
            rotate_left
            · simp only [Act.put, List.setIfInBounds_toArray, List.set_cons_zero, List.set_cons_succ, i64_w, i32_w]
              rfl
            refine pure_ (i := 11) (N := some 61) (v := ?_) (a' := ?_) #[true, true, true, true, true, true, true, true, true, true, true, true, false] rfl rfl (by kernel_rfl) (fun _ _ _ h => h) (Or.inl ⟨by rfl, ?_⟩) ?_ ?_
            rotate_left
            · intro w'
              go_simp
              with_reducible rfl
            rotate_left
            · simp only [Act.put, List.setIfInBounds_toArray, List.set_cons_zero, List.set_cons_succ, i64_w, i32_w]
              rfl
            refine last_ (i := 12) (N := none) #[true, true, true, true, true, true, true, true, true, true, true, true, true] rfl rfl (by kernel_rfl) (by decide) (fun K hK => ?_)
            have hf9 := HFZ.out w9 HG9.out i HIL.out
            refine skip_ (w1 := w9.setCell ⟨g7, i, none⟩ (.int .u8 xv)) (by rfl) rfl ?_ ?_
            · rw [HXV.out]
              go_simp
            refine hK.out _ _ ?_
            clear hK K
            refine done_ (by kernel_rfl) ?_
            have HBS9 := Aside0.mk (below_set (g := g7) (j := i) (v := .int .u8 xv) HB9.out HGE.out)
            have HCS : Aside0 (Kd.C (Kd.int .u8) (w9.setCell ⟨g7, i, none⟩ (.int .u8 xv)) (some ⟨g7, 0, none⟩) (d.set i xv).length (d.set i xv)) := ⟨C_cells (by rw [List.length_set]; have := HDL.out; omega) (fun j hj => by
              rw [List.length_set] at hj
              have hh : (w9.setCell ⟨g7, i, none⟩ (.int .u8 xv)).heap[g7]? = some (.cells (cs.setIfInBounds i (.int .u8 xv)) 5 (cs.size, cs.size + 1)) := by
                simp [World.setCell, Array.getElem?_modify, HG9.out]
              unfold World.cell?
              rw [hh]
              show (cs.setIfInBounds i (.int .u8 xv))[j]? = _
              have hcl := HBS.out
              by_cases hji : i = j
              · subst hji
                rw [Array.getElem?_setIfInBounds_self_of_lt (by omega)]
                simp [rd, hj]
              · rw [Array.getElem?_setIfInBounds_ne hji, HBX.out j hj]
                simp [rd, List.getElem?_set_ne hji])⟩
            have hcrc := impl_Crc.calls k (some ⟨g7, 0, none⟩) cq (d.set i xv) s3 _ HCS.out (by rw [List.length_set]; exact HQC.out) AS3.out (Go.Proofs.YtejecjjimggjeaaDoorH.GFNIB.below HG.out HBS9.out)
            rw [List.length_set] at hcrc
            have HCRC := Aside0.mk hcrc
            clear hcrc
            generalize w9.setCell ⟨g7, i, none⟩ (.int .u8 xv) = w11 at HBS9 HCS HCRC ⊢
            go_wp2_with (first | ((with_reducible refine gate_callee (f := 14) rfl ?_); refine goesL_ (some 63) rfl rfl Tryd.func14 (by kernel_rfl) rfl #[.slice (some ⟨g7, 0, none⟩) d.length cq] rfl (by (try simp only [List.map_toArray, List.map_cons, List.map_nil]); first | done | rfl) ?_; refine (HCRC.out).mono ?_; rintro e w10 ⟨rfl, hd_⟩; refine ⟨_, rfl, ?_⟩; have HB10 := Aside0.mk (below_step HBS9.out hd_.below); clear hd_))
            go_ret
            exact ⟨rfl, HB10.out⟩
      · cases h
  · cases h
theorem laws_FnCrcByte.g_true {k : Nat} {d l1 : List Int} {r : Bool} (h : laws_FnCrcByte.g k d l1 = some r) : r = true := by
  unfold laws_FnCrcByte.g at h
  obtain ⟨s, _, h⟩ := Option.bind_eq_some_iff.mp h
  obtain ⟨s2, _, h⟩ := Option.bind_eq_some_iff.mp h
  split at h
  · split at h
    · obtain ⟨c, _, h⟩ := Option.bind_eq_some_iff.mp h
      split at h
      · exact (Option.some.inj h).symm
      · cases h
    · obtain ⟨a, _, h⟩ := Option.bind_eq_some_iff.mp h
      obtain ⟨b, _, h⟩ := Option.bind_eq_some_iff.mp h
      obtain ⟨c, _, h⟩ := Option.bind_eq_some_iff.mp h
      split at h
      · obtain ⟨s3, _, h⟩ := Option.bind_eq_some_iff.mp h
        split at h
        · cases h
        · exact (Option.some.inj h).symm
      · cases h
  · cases h
theorem laws_FnCrcByte.calls (k : Nat) (A0 : Option Addr) (c0 : Nat) (l0 : List Int) (A1 : Option Addr) (c1 : Nat) (l1 : List Int) (r : Bool) (w : World) (hr0 : Kd.C (Kd.int .u8) w A0 l0.length l0) (hc0 : l0.length ≤ c0) (hr1 : Kd.C (Kd.int .u8) w A1 l1.length l1) (hc1 : l1.length ≤ c1) (h : laws_FnCrcByte.f k l0 l1 = some r) (hGNIB_ : Go.Proofs.YtejecjjimggjeaaDoorH.GFNIB w) :
    Calls Tryd.prog 4 #[.slice A0 l0.length c0, .slice A1 l1.length c1] w fun e w' => e = .returned (.bool r) ∧ Below w.heap.size w w' := by
  have HGNIB_ := Aside0.mk hGNIB_
  clear hGNIB_
  unfold laws_FnCrcByte.f at h
  split at h
  · rename_i hok
    have hok2 : ∀ x ∈ l0, 0 ≤ x ∧ x ≤ 255 := fun x hx => of_decide_eq_true (List.all_eq_true.mp hok x hx)
    by_cases h0 : (l0.length : Int) > 1048576
    · rw [if_pos h0] at h
      obtain rfl := Option.some.inj h
      have p0 : ((1048576 : Int) < (l0.length : Int)) = True := eq_true h0
      have HB := Aside0.mk (Below.refl w.heap.size w)
      clear hr0 hr1
      go_enter Tryd.func4, Tryd.ntmps4
      go_wp2
      go_ret
      exact ⟨rfl, HB.out⟩
    · rw [if_neg h0] at h
      by_cases h1 : (l1.length : Int) > 1048576
      · rw [if_pos h1] at h
        obtain rfl := Option.some.inj h
        have p0 : ((1048576 : Int) < (l0.length : Int)) = False := eq_false h0
        have p1 : ((1048576 : Int) < (l1.length : Int)) = True := eq_true h1
        have HB := Aside0.mk (Below.refl w.heap.size w)
        clear hr0 hr1
        go_enter Tryd.func4, Tryd.ntmps4
        go_wp2
        go_ret
        exact ⟨rfl, HB.out⟩
      · rw [if_neg h1] at h
        have hrt : r = true := laws_FnCrcByte.g_true h
        subst hrt
        exact laws_FnCrcByte.main k A0 c0 l0 _ A1 c1 l1 w (decide ((l0.length : Int) > 2000)) (by
          by_cases h2 : (l0.length : Int) > 2000
          · rw [if_pos h2, decide_eq_true h2, if_pos rfl]
          · rw [if_neg h2, decide_eq_false h2, if_neg (by decide)]) rfl hr0 hc0 hr1 hc1 hok2 h0 h1 h HGNIB_.out
  · cases h

/-- THE ONE PURE STATEMENT of laws_FnCrcByte. -/
def laws_FnCrcByte.Pure : Prop := ∀ (l0 : List Int) (l1 : List Int), (l0.length ≤ maxLen ∧ ∀ z0_ ∈ l0, (Lit.int .u8 z0_).wf = true) → (l1.length ≤ maxLen ∧ ∀ z0_ ∈ l1, (Lit.int .u8 z0_).wf = true) → ∃ k, laws_FnCrcByte.f k l0 l1 = some true

end Go.Proofs.YtejecjjimggjeaaDoor.GFnCrcByte
