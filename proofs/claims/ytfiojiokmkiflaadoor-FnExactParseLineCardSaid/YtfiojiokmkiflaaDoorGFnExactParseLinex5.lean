/- Written by give.py, a program of this session, that runs the kit's print and lays contracts proved by hand beside it. -/
import Derived.Test.YtfiojiokmkiflaaDoorGFnExactParseLinex0
import Derived.Test.YtfiojiokmkiflaaDoorHStep
import Derived.Test.YtfiojiokmkiflaaDoorGFnExactParseLinex4
namespace Go.Proofs.YtfiojiokmkiflaaDoor.GFnExactParseLine
open Go.Proofs.YtfiojiokmkiflaaDoorH (pu po ta pt ps p0 p1 bfin)
open Go.RowKit Go.Proofs.YtfiojiokmkiflaaDoorW.PrintWords Go.Proofs.YtfiojiokmkiflaaDoorW.PrintLast Go.Proofs.YtfiojiokmkiflaaDoorW.PrintMore
attribute [local go_sem] max2_int min2_int max_two min_two max_three min_three max_four min_four
attribute [local go_sem high] Go.Proofs.YtfiojiokmkiflaaDoorH.str_leq Go.Proofs.YtfiojiokmkiflaaDoorH.str_geq Go.Proofs.YtfiojiokmkiflaaDoorH.str_gtr   -- for this text's walks alone
set_option linter.unusedVariables false
set_option linter.unusedSimpArgs false

set_option maxHeartbeats 1000000 in
theorem bare1_c (w : World) (gk : Nat) (kind : Int) (A : Option Addr) (c : Nat) (fs : List ByteArray) (hk : w.cell? ⟨gk, 0, none⟩ = some (.int .i64 kind)) :
  Calls Tryd.prog 140 #[.slice A fs.length c, .pointer (some ⟨gk, 0, none⟩)] w fun e w' => e = .returned (.tuple #[.agg #[.int .i64 kind, .slice none 0 0, .bool false, .string (⟨#[]⟩ : ByteArray), .slice none 0 0], .bool ((fs.length : Int) == 1)]) ∧ Below w.heap.size w w' := by
 have HK := Aside0.mk hk
 have hu1 := Tryd.underlying66
 clear hk
 go_enter Tryd.func140, Tryd.ntmps140
 go_wp2_with (first | ((with_reducible refine zu (N := 3) rfl ?_); refine Go.Proofs.YtfiojiokmkiflaaDoorH.alloc_arr rfl (t := 66) rfl (N := 3) rfl (zs := #[.int .i64 0, .slice none 0 0, .bool false, .string (⟨#[]⟩ : ByteArray), .slice none 0 0]) (n := 5) (by kernel_rfl) ?_; intro g3 hg3 w1 hA3 hb1 _; have HA3 := Aside0.mk hA3; have HB1 := Aside0.mk hb1; have HGE := Aside0.mk (show w.heap.size ≤ g3 by (rw [hg3]; exact Nat.le_refl _)); have hc1 : w1.cell? ⟨gk, 0, none⟩ = some (.int .i64 kind) := zk hb1 HK.out; clear hA3 hb1 hg3) | (refine Go.Proofs.YtfiojiokmkiflaaDoorH.store_arr (g := g3) (cells := #[.int .i64 kind, .slice none 0 0, .bool false, .string (⟨#[]⟩ : ByteArray), .slice none 0 0]) rfl (t := 66) rfl rfl rfl rfl HA3.out (by kernel_rfl) rfl (by kernel_rfl) ?_; intro w9 hA9_ hg9_; have HA9 := Aside0.mk hA9_; have HB9 := Aside0.mk (zv HB1.out (some g3) HB1.out.size hg9_ (fun k_ hk_ => by injection hk_ with hk_; rw [← hk_]; exact HGE.out)); clear hA9_ hg9_))
 refine bodyPost_ret (results_list (rs := [.cell 3 66, .tmp 4]) rfl (by simp) (.cell g3 66 _ (0, 0) _ rfl HA9.out Tryd.underlying66 rfl (by kernel_rfl) (.tmp .nil))) rfl ?_
 exact ⟨rfl, HB9.out⟩
theorem bare_c (w : World) (kind : Int) : Calls Tryd.prog 117 #[.int .i64 kind] w fun e w' => ∃ g, e = .returned (.func (.func 140) #[] #[.pointer (some ⟨g, 0, none⟩)]) ∧ w.heap.size ≤ g ∧ w'.cell? ⟨g, 0, none⟩ = some (.int .i64 kind) ∧ Below w.heap.size w w' := by
 have hmf : ∀ (fn : Fn) (first cap : Array Value) (w : World), (Instr.makeFunc fn first cap).run Tryd.prog w = .ok (.func fn first cap) w := fun _ _ _ _ => rfl
 go_enter Tryd.func117, Tryd.ntmps117
 go_wp2
 go_ret
 exact ⟨w.heap.size, rfl, Nat.le_refl _, (zc (blk_new w (.cells #[.int .i64 kind] 2)) 0).trans rfl, zh (Below.refl _ _) _⟩
theorem pathed_c (w : World) (kind : Int) : Calls Tryd.prog 118 #[.int .i64 kind] w fun e w' => ∃ g, e = .returned (.func (.func 141) #[] #[.pointer (some ⟨g, 0, none⟩)]) ∧ w.heap.size ≤ g ∧ w'.cell? ⟨g, 0, none⟩ = some (.int .i64 kind) ∧ Below w.heap.size w w' := by
 have hmf : ∀ (fn : Fn) (first cap : Array Value) (w : World), (Instr.makeFunc fn first cap).run Tryd.prog w = .ok (.func fn first cap) w := fun _ _ _ _ => rfl
 go_enter Tryd.func118, Tryd.ntmps118
 go_wp2
 go_ret
 exact ⟨w.heap.size, rfl, Nat.le_refl _, (zc (blk_new w (.cells #[.int .i64 kind] 2)) 0).trans rfl, zh (Below.refl _ _) _⟩
theorem put_line {W : World} {g : Nat} {old new : Array Value} (h : W.heap[g]? = some (.cells old 66 (0, 0))) (h5 : old.size = 5) (n5 : new.size = 5) (h1 : new.all (·.oneCell') = true) {o : Oper} {a : Act} {x y : Operand} (ho : o.op = .store 66 x y) (hx : a.eval x = .pointer (some ⟨g, 0, none⟩)) (hy : a.eval y = .agg new) :
  (execOp a.eval o).run Tryd.prog W = .ok .skip (W.setRow g new) := by
 have hi : (Tryd.prog.info? 66).map (·.size) = some new.size := by rw [n5]; kernel_rfl
 unfold execOp
 simp only [ho, hx, hy, Instr.storeAt, Instr.sureAddr, Sem.run_bind, Sem.run_pure, Result.andThen_ok, run_storeVar_row W g 66 66 old new h hi (by omega) h1]
theorem put_facts {W : World} {g T : Nat} {old new : Array Value} (h : W.heap[g]? = some (.cells old T (0, 0))) : (W.setRow g new).heap[g]? = some (.cells new T (0, 0)) ∧ W.grownBy (W.setRow g new) (some g) := by
 refine ⟨by simp [World.setRow, Array.getElem?_modify, h], rfl, rfl, rfl, by simp [World.setRow], fun i hi hne => ?_⟩
 simp only [World.setRow, Array.getElem?_modify]
 rw [if_neg (by intro e; exact hne (by rw [e]))]
set_option maxHeartbeats 1000000 in
set_option maxRecDepth 100000 in
theorem pathed1_c (w : World) (gk : Nat) (kind : Int) (A : Option Addr) (c : Nat) (fs : List ByteArray) (hk : w.cell? ⟨gk, 0, none⟩ = some (.int .i64 kind)) (hr : Kd.C Kd.string w A fs.length fs) :
  Calls Tryd.prog 141 #[.slice A fs.length c, .pointer (some ⟨gk, 0, none⟩)] w fun e w' => e = .returned (.tuple (if fs.length = 2 then #[.agg #[.int .i64 kind, .slice none 0 0, .bool false, .string (rdOf ByteArray.empty fs 1), .slice none 0 0], .bool true] else #[.agg #[.int .i64 0, .slice none 0 0, .bool false, .string (⟨#[]⟩ : ByteArray), .slice none 0 0], .bool false])) ∧ Below w.heap.size w w' := by
 have HK := Aside0.mk hk
 have HR := Aside0.mk hr
 have hu1 := Tryd.underlying66
 clear hk hr
 by_cases h2 : fs.length = 2
 ·rw [if_pos h2]
  obtain ⟨x, hx⟩ : ∃ x, x = rdOf ByteArray.empty fs 1 := ⟨_, rfl⟩
  rw [← hx]
  obtain ⟨ad, eA, hx1⟩ := Kd.at_string HR.out 1 (by omega) (by omega)
  cases eA
  rw [← hx] at hx1
  have c0 : decide ((fs.length : Int) = 2) = true := decide_eq_true (by omega)
  have c1 : ((fs.length : Int) == 2) = true := beq_iff_eq.mpr (by omega)
  have c2 : ((fs.length : Int) != 2) = false := bne_eq_false_iff_eq.mpr (by omega)
  have c3 : ((1 : Int) < (fs.length : Int)) = True := eq_true (by omega)
  have HX1 := Aside0.mk hx1
  clear hx1 hx h2
  go_enter Tryd.func141, Tryd.ntmps141
  go_wp2_with (first | ((with_reducible refine zu (N := 3) rfl ?_); refine Go.Proofs.YtfiojiokmkiflaaDoorH.alloc_arr rfl (t := 66) rfl (N := 3) rfl (zs := #[.int .i64 0, .slice none 0 0, .bool false, .string (⟨#[]⟩ : ByteArray), .slice none 0 0]) (n := 5) (by kernel_rfl) ?_; intro g3 hg3 w1 hA3 hb1 _; have HA3 := Aside0.mk hA3; have HB1 := Aside0.mk hb1; have HGE := Aside0.mk (show w.heap.size ≤ g3 by (rw [hg3]; exact Nat.le_refl _)); have hc1 : w1.cell? ⟨gk, 0, none⟩ = some (.int .i64 kind) := zk hb1 HK.out; clear hA3 hb1 hg3))
  have hx1 : w1.drew.cell? ⟨ad.block, ad.off + 1, none⟩ = some (.string x) := by
   have h_ := zk HB1.out HX1.out
   have e_ : ad.add (1 : Int).toNat = ⟨ad.block, ad.off + 1, none⟩ := by show ad.add 1 = _; unfold Addr.add; rfl
   rw [e_] at h_
   exact h_
  refine start_ (n := 7) (S := fun w' => w'.cell? ⟨gk, 0, none⟩ = some (.int .i64 kind) ∧ w'.cell? ⟨ad.block, ad.off + 1, none⟩ = some (.string x)) (ds := [5]) #[false, false, false, false, false, false, false] (by kernel_rfl) rfl rfl ⟨hc1, hx1⟩ (fun hHeld => ?_)
  have HA4 := Aside0.mk (zj HA3.out); have HB4 := Aside0.mk (below_drew HB1.out); generalize hw4_ : w1.drew = w4 at HA4 HB4 hHeld ⊢; clear hw4_
  refine pu 1 10 rfl rfl (by kernel_rfl) (fun _ _ _ _ h => h) (by rfl) ⟨_, _, fun w' => by go_simp; rfl, by simp only [pt, ps, p0, p1, zr, zt]; rfl, ?_⟩
  refine pu 2 11 rfl rfl (by kernel_rfl) (fun _ _ _ _ h => h) (by rfl) ⟨_, _, fun w' => by go_simp; rfl, by simp only [pt, ps, p0, p1, zr, zt]; rfl, ?_⟩
  refine ta 0 9 rfl rfl (by kernel_rfl) (fun _ _ _ _ h => h) (by rfl) hHeld ⟨_, _, by rintro w' ⟨s0, s1⟩; go_simp; rfl, by simp only [pt, ps, p0, p1, zr, zt]; rfl, ?_⟩
  refine ta 3 12 rfl rfl (by kernel_rfl) (fun _ _ _ _ h => h) (by rfl) hHeld ⟨_, _, by rintro w' ⟨s0, s1⟩; go_simp; rfl, by simp only [pt, ps, p0, p1, zr, zt]; rfl, ?_⟩
  refine pu 4 13 rfl rfl (by kernel_rfl) (fun _ _ _ _ h => h) (by rfl) ⟨_, _, fun w' => by go_simp; rfl, by simp only [pt, ps, p0, p1, zr, zt]; rfl, ?_⟩
  refine last_ (i := 5) (N := none) #[true, true, true, true, true, true, false] rfl rfl (by kernel_rfl) (by decide) (fun K hK => ?_)
  refine skip_ (by rfl) rfl (put_line (new := #[.int .i64 kind, .slice none 0 0, .bool false, .string x, .slice none 0 0]) HA4.out rfl rfl (by kernel_rfl) (by rfl) (by rfl) (by rfl)) ?_
  obtain ⟨hA9, hg9⟩ := put_facts (new := #[.int .i64 kind, .slice none 0 0, .bool false, .string x, .slice none 0 0]) HA4.out
  have HA9 := Aside0.mk hA9
  have HB9 := Aside0.mk (zv HB4.out (some g3) HB4.out.size hg9 (fun k_ hk_ => by injection hk_ with hk_; rw [← hk_]; exact HGE.out))
  clear hA9 hg9
  refine hK.out _ _ ?_
  clear hK K
  refine pu 6 4 rfl rfl (by kernel_rfl) (fun _ _ _ _ h => h) (by rfl) ⟨_, _, fun w' => by go_simp; rfl, by simp only [pt, ps, p0, p1, zr, zt]; rfl, ?_⟩
  refine done_ (by kernel_rfl) ?_
  try go_wp2
  refine bodyPost_ret (results_list (rs := [.cell 3 66, .tmp 4]) rfl (by simp) (.cell g3 66 _ (0, 0) _ rfl HA9.out Tryd.underlying66 rfl (by kernel_rfl) (.tmp .nil))) rfl ?_
  exact ⟨rfl, HB9.out⟩
 ·rw [if_neg h2]
  have c0 : decide ((fs.length : Int) = 2) = false := decide_eq_false (by omega)
  have c1 : ((fs.length : Int) == 2) = false := beq_eq_false_iff_ne.mpr (by omega)
  have c2 : ((fs.length : Int) != 2) = true := bne_iff_ne.mpr (by omega)
  clear h2
  go_enter Tryd.func141, Tryd.ntmps141
  go_wp2_with (first | ((with_reducible refine zu (N := 3) rfl ?_); refine Go.Proofs.YtfiojiokmkiflaaDoorH.alloc_arr rfl (t := 66) rfl (N := 3) rfl (zs := #[.int .i64 0, .slice none 0 0, .bool false, .string (⟨#[]⟩ : ByteArray), .slice none 0 0]) (n := 5) (by kernel_rfl) ?_; intro g3 hg3 w1 hA3 hb1 _; have HA3 := Aside0.mk hA3; have HB1 := Aside0.mk hb1; have HGE := Aside0.mk (show w.heap.size ≤ g3 by (rw [hg3]; exact Nat.le_refl _)); have hc1 : w1.cell? ⟨gk, 0, none⟩ = some (.int .i64 kind) := zk hb1 HK.out; clear hA3 hb1 hg3) | (refine Go.Proofs.YtfiojiokmkiflaaDoorH.store_arr (g := g3) (cells := #[.int .i64 0, .slice none 0 0, .bool false, .string (⟨#[]⟩ : ByteArray), .slice none 0 0]) rfl (t := 66) rfl rfl rfl rfl HA3.out (by kernel_rfl) rfl (by kernel_rfl) ?_; intro w9 hA9_ hg9_; have HA9 := Aside0.mk hA9_; have HB9 := Aside0.mk (zv HB1.out (some g3) HB1.out.size hg9_ (fun k_ hk_ => by injection hk_ with hk_; rw [← hk_]; exact HGE.out)); clear hA9_ hg9_))
  refine bodyPost_ret (results_list (rs := [.cell 3 66, .tmp 4]) rfl (by simp) (.cell g3 66 _ (0, 0) _ rfl HA9.out Tryd.underlying66 rfl (by kernel_rfl) (.tmp .nil))) rfl ?_
  exact ⟨rfl, HB9.out⟩
def inB (vs : List Int) (bs : List (Int × Int)) (i : Nat) : Bool := !(decide (vs.getD i 0 < (bs.getD i (0, 0)).1)) && !(decide ((bs.getD i (0, 0)).2 < vs.getD i 0))
def allB (vs : List Int) (bs : List (Int × Int)) : Nat → Bool
 | 0 => true
 | n + 1 => allB vs bs n && inB vs bs n
def cnt (kind : Int) (free : Bool) (bs : List (Int × Int)) (vs : List Int) (ok : Bool) : Int × List Int × Bool := if ok = true ∧ bs.length ≤ vs.length ∧ (free = true ∨ vs.length ≤ bs.length) then (if allB vs bs bs.length = true then (kind, vs, true) else (0, [], false)) else (0, [], false)
theorem allB_at {vs : List Int} {bs : List (Int × Int)} {n i : Nat} (h : allB vs bs n = true) (hi : i < n) : inB vs bs i = true := by
 induction n with
 | zero => omega
 | succ n ih =>
  simp only [allB, Bool.and_eq_true] at h
  by_cases e : i = n
  ·rw [e]; exact h.2
  ·exact ih h.1 (by omega)
theorem num_drop (k : Nat) (w : World) (A1 : Option Addr) (c : Nat) (fs : List ByteArray) (vs : List Int) (ok : Bool) (hd : Kd.C Kd.string w A1 (fs.drop 1).length (fs.drop 1)) (hc : fs.length ≤ c) (hf : 1 ≤ fs.length) (h : impl_numbers.f k (fs.drop 1) = some (vs, ok)) :
  Calls Tryd.prog 143 #[.slice A1 (fs.length - 1) (c - 1)] w fun e w' => ∃ v, e = .returned (.tuple #[v, .bool ok]) ∧ Kd.R (Kd.int .i64) 2 w' w.heap.size (fun _ => True) v vs ∧ Below w.heap.size w w' := by
 have hl : (fs.drop 1).length = fs.length - 1 := List.length_drop
 have := impl_numbers.calls k A1 (c - 1) (fs.drop 1) vs ok w hd (by rw [hl]; omega) h
 rw [hl] at this
 exact this
theorem load_pair {ops : Array Oper} {Q : Exit → Act → World → Prop} {rest : List Oper} {o : Oper} {a : Act} {W : World} {x : Operand} {ad : Addr} {p q : Int} (hgd : o.guard = none) (ho : o.op = .load 194 x) {N : Tmp} (_hd : o.dst = some N) (hx : a.eval x = .pointer (some ad)) (h0 : W.cell? (ad.add 0) = some (.int .i64 p)) (h1 : W.cell? (ad.add 1) = some (.int .i64 q))
  (h : wpList Tryd.prog ops Q rest (a.put o.dst (.agg #[.int .i64 p, .int .i64 q])) W) : wpList Tryd.prog ops Q (o :: rest) a W := by
 refine Kd.event_run hgd (v := .agg #[.int .i64 p, .int .i64 q]) (w1 := W) ?_ h
 have hl2 : (loadCells ad 2).run Tryd.prog W = .ok #[.int .i64 p, .int .i64 q] W := by
  refine run_loadCells_list (P := Tryd.prog) W ad [.int .i64 p, .int .i64 q] (fun j v hv => ?_)
  match j, hv with
  | 0, hv => simp at hv; rw [← hv]; exact h0
  | 1, hv => simp at hv; rw [← hv]; exact h1
  | j + 2, hv => simp at hv
 have hq : (Tryd.prog.info? 194).map (·.size) = some 2 := by kernel_rfl
 have hagg : (isAgg 194).run Tryd.prog W = .ok true W := by
  unfold isAgg
  simp [run_underlying Tryd.underlying194]
 cases hi : Tryd.prog.info? 194 with
 | none => simp [hi] at hq
 | some i =>
  have hs : i.size = 2 := by simp [hi] at hq; exact hq
  unfold execOp
  simp [ho, hx, Instr.loadAt, Instr.sureAddr, loadVar, hagg, sizeOf, typeInfo, hi, hs]
  rw [hl2]
  rfl
set_option maxHeartbeats 4000000 in
set_option maxRecDepth 100000 in
theorem counted1_bad (k : Nat) (w : World) (gkk gF gB : Nat) (kind : Int) (free : Bool) (bs : List (Int × Int)) (AB : Option Addr) (cB : Nat) (A : Option Addr) (c : Nat) (fs : List ByteArray) (vs : List Int) (ok : Bool) (hk : w.cell? ⟨gkk, 0, none⟩ = some (.int .i64 kind)) (hkf : w.cell? ⟨gF, 0, none⟩ = some (.bool free)) (hkb : w.cell? ⟨gB, 0, none⟩ = some (.slice AB bs.length cB)) (hbs : ∀ i, i < bs.length → ∃ ad, AB = some ad ∧ w.cell? ((ad.add (i * 2)).add 0) = some (.int .i64 (bs.getD i (0, 0)).1) ∧ w.cell? ((ad.add (i * 2)).add 1) = some (.int .i64 (bs.getD i (0, 0)).2)) (hbl : bs.length ≤ 1000) (hr : Kd.C Kd.string w A fs.length fs) (hc : fs.length ≤ c) (hf : 1 ≤ fs.length) (h : impl_numbers.f k (fs.drop 1) = some (vs, ok)) (hn : ¬ (ok = true ∧ bs.length ≤ vs.length ∧ (free = true ∨ vs.length ≤ bs.length))) :
  Calls Tryd.prog 142 #[.slice A fs.length c, .pointer (some ⟨gB, 0, none⟩), .pointer (some ⟨gF, 0, none⟩), .pointer (some ⟨gkk, 0, none⟩)] w fun e w' => ∃ v, e = .returned (.tuple #[.agg #[.int .i64 0, .slice none 0 0, .bool false, .string (⟨#[]⟩ : ByteArray), v], .bool false]) ∧ Kd.R (Kd.int .i64) 2 w' w.heap.size (fun _ => True) v [] ∧ Below w.heap.size w w' := by
 have HK := Aside0.mk hk
 have HKF := Aside0.mk hkf
 have HKB := Aside0.mk hkb
 have HBS := Aside0.mk hbs
 have HBL := Aside0.mk hbl
 have HR := Aside0.mk hr
 have HC := Aside0.mk hc
 have HF := Aside0.mk hf
 have HV := Aside0.mk h
 have hu1 := Tryd.underlying66
 obtain ⟨i0_, hi0_, hz0_⟩ := Option.map_eq_some_iff.1 (show (Tryd.prog.info? 9).map (·.size) = some 1 by kernel_rfl)
 obtain ⟨A1, hcut, hC1⟩ : ∃ A1, (∀ W : World, (Instr.slice 119 (.slice A fs.length c) (some (.int .i64 1)) none none).run Tryd.prog W = .ok (.slice A1 (fs.length - 1) (c - 1)) W) ∧ (∀ W : World, Kd.C Kd.string W A fs.length fs → Kd.C Kd.string W A1 (fs.drop 1).length (fs.drop 1)) :=
  ⟨_, cut_from (P := Tryd.prog) 119 9 .i64 Tryd.underlying119 hi0_ 1 hz0_ A fs.length c 1 (by omega) (by omega), fun W h_ => Kd.C_drop h_ hf hc⟩
 have HC1 := Aside0.mk hC1
 clear hk hkf hkb hbs hbl hr hc hf h hi0_ hz0_ i0_ hC1
 cases ok with
 | false =>
  clear hn
  go_enter Tryd.func142, Tryd.ntmps142
  go_wp2_with (first | ((with_reducible refine zu (N := 5) rfl ?_); refine Go.Proofs.YtfiojiokmkiflaaDoorH.alloc_arr rfl (t := 66) rfl (N := 5) rfl (zs := #[.int .i64 0, .slice none 0 0, .bool false, .string (⟨#[]⟩ : ByteArray), .slice none 0 0]) (n := 5) (by kernel_rfl) ?_; intro g3 hg3 w1 hA3 hb1 _; have HA3 := Aside0.mk hA3; have HB1 := Aside0.mk hb1; have HGE := Aside0.mk (show w.heap.size ≤ g3 by (rw [hg3]; exact Nat.le_refl _)); clear hA3 hb1 hg3) | ((with_reducible refine zo (f := 143) rfl ?_); (try (refine gate_guard (by rfl) ?_; dsimp only)); refine zy (some 14) rfl rfl Tryd.func143 (by kernel_rfl) rfl #[.slice A1 (fs.length - 1) (c - 1)] rfl (by (try simp only [List.map_toArray, List.map_cons, List.map_nil]); first | done | rfl) ?_; refine (num_drop k w1 A1 c fs vs _ (HC1.out _ (Kd.C_below HR.out HB1.out)) HC.out HF.out HV.out).mono ?_; rintro e w2 ⟨v2, rfl, hr2, hb2⟩; refine ⟨_, rfl, ?_⟩; have HB2 := Aside0.mk (zm HB1.out hb2); have HR2 := Aside0.mk (Kd.R_lower hr2 HB1.out.size); have HA32 := Aside0.mk ((hb2.block _ (zB HA3.out)).trans HA3.out); obtain ⟨AV, cV, eV⟩ := Kd.R_slice hr2; subst eV; have hcB : w2.cell? ⟨gB, 0, none⟩ = some (.slice AB bs.length cB) := zk HB2.out HKB.out; have hcF : w2.cell? ⟨gF, 0, none⟩ = some (.bool _) := zk HB2.out HKF.out; have hcK : w2.cell? ⟨gkk, 0, none⟩ = some (.int .i64 kind) := zk HB2.out HK.out; clear hr2 hb2 hcut) | ((with_reducible refine gate_store (t := 66) (p := 5) rfl ?_); (refine Go.Proofs.YtfiojiokmkiflaaDoorH.store_arr (g := g3) (cells := #[.int .i64 0, .slice none 0 0, .bool false, .string (⟨#[]⟩ : ByteArray), .slice none 0 0]) rfl (t := 66) rfl rfl rfl rfl HA32.out (by kernel_rfl) rfl (by kernel_rfl) ?_; intro w9 hA9_ hg9_; have HA9 := Aside0.mk hA9_; have HG9 := Aside0.mk hg9_; have HB9 := Aside0.mk (zv HB2.out (some g3) HB2.out.size hg9_ (fun k_ hk_ => by injection hk_ with hk_; rw [← hk_]; exact HGE.out)); clear hA9_ hg9_)))
  refine bodyPost_ret (results_list (rs := [.cell 5 66, .tmp 6]) rfl (by simp) (.cell g3 66 _ (0, 0) _ rfl HA9.out Tryd.underlying66 rfl (by kernel_rfl) (.tmp .nil))) rfl ?_
  exact ⟨_, rfl, Kd.R_nil _ _ _ _ _, HB9.out⟩
 | true =>
  by_cases h1 : bs.length ≤ vs.length
  ·have hfr : free = false := by cases free; rfl; exact absurd ⟨rfl, h1, .inl rfl⟩ hn
   subst hfr
   have h2 : ¬ vs.length ≤ bs.length := fun h2 => hn ⟨rfl, h1, .inr h2⟩
   have c1 : decide ((vs.length : Int) < (bs.length : Int)) = false := decide_eq_false (by omega)
   have c2 : decide ((bs.length : Int) < (vs.length : Int)) = true := decide_eq_true (by omega)
   have c3 : decide (vs.length < bs.length) = false := decide_eq_false (by omega)
   have c4 : decide (bs.length < vs.length) = true := decide_eq_true (by omega)
   clear hn h1 h2
   go_enter Tryd.func142, Tryd.ntmps142
   go_wp2_with (first | ((with_reducible refine zu (N := 5) rfl ?_); refine Go.Proofs.YtfiojiokmkiflaaDoorH.alloc_arr rfl (t := 66) rfl (N := 5) rfl (zs := #[.int .i64 0, .slice none 0 0, .bool false, .string (⟨#[]⟩ : ByteArray), .slice none 0 0]) (n := 5) (by kernel_rfl) ?_; intro g3 hg3 w1 hA3 hb1 _; have HA3 := Aside0.mk hA3; have HB1 := Aside0.mk hb1; have HGE := Aside0.mk (show w.heap.size ≤ g3 by (rw [hg3]; exact Nat.le_refl _)); clear hA3 hb1 hg3) | ((with_reducible refine zo (f := 143) rfl ?_); (try (refine gate_guard (by rfl) ?_; dsimp only)); refine zy (some 14) rfl rfl Tryd.func143 (by kernel_rfl) rfl #[.slice A1 (fs.length - 1) (c - 1)] rfl (by (try simp only [List.map_toArray, List.map_cons, List.map_nil]); first | done | rfl) ?_; refine (num_drop k w1 A1 c fs vs _ (HC1.out _ (Kd.C_below HR.out HB1.out)) HC.out HF.out HV.out).mono ?_; rintro e w2 ⟨v2, rfl, hr2, hb2⟩; refine ⟨_, rfl, ?_⟩; have HB2 := Aside0.mk (zm HB1.out hb2); have HR2 := Aside0.mk (Kd.R_lower hr2 HB1.out.size); have HA32 := Aside0.mk ((hb2.block _ (zB HA3.out)).trans HA3.out); obtain ⟨AV, cV, eV⟩ := Kd.R_slice hr2; subst eV; have hcB : w2.cell? ⟨gB, 0, none⟩ = some (.slice AB bs.length cB) := zk HB2.out HKB.out; have hcF : w2.cell? ⟨gF, 0, none⟩ = some (.bool _) := zk HB2.out HKF.out; have hcK : w2.cell? ⟨gkk, 0, none⟩ = some (.int .i64 kind) := zk HB2.out HK.out; clear hr2 hb2 hcut) | ((with_reducible refine gate_store (t := 66) (p := 5) rfl ?_); (refine Go.Proofs.YtfiojiokmkiflaaDoorH.store_arr (g := g3) (cells := #[.int .i64 0, .slice none 0 0, .bool false, .string (⟨#[]⟩ : ByteArray), .slice none 0 0]) rfl (t := 66) rfl rfl rfl rfl HA32.out (by kernel_rfl) rfl (by kernel_rfl) ?_; intro w9 hA9_ hg9_; have HA9 := Aside0.mk hA9_; have HG9 := Aside0.mk hg9_; have HB9 := Aside0.mk (zv HB2.out (some g3) HB2.out.size hg9_ (fun k_ hk_ => by injection hk_ with hk_; rw [← hk_]; exact HGE.out)); clear hA9_ hg9_)))
   refine bodyPost_ret (results_list (rs := [.cell 5 66, .tmp 6]) rfl (by simp) (.cell g3 66 _ (0, 0) _ rfl HA9.out Tryd.underlying66 rfl (by kernel_rfl) (.tmp .nil))) rfl ?_
   exact ⟨_, rfl, Kd.R_nil _ _ _ _ _, HB9.out⟩
  ·have c1 : decide ((vs.length : Int) < (bs.length : Int)) = true := decide_eq_true (by omega)
   have c3 : decide (vs.length < bs.length) = true := decide_eq_true (by omega)
   clear hn h1
   go_enter Tryd.func142, Tryd.ntmps142
   go_wp2_with (first | ((with_reducible refine zu (N := 5) rfl ?_); refine Go.Proofs.YtfiojiokmkiflaaDoorH.alloc_arr rfl (t := 66) rfl (N := 5) rfl (zs := #[.int .i64 0, .slice none 0 0, .bool false, .string (⟨#[]⟩ : ByteArray), .slice none 0 0]) (n := 5) (by kernel_rfl) ?_; intro g3 hg3 w1 hA3 hb1 _; have HA3 := Aside0.mk hA3; have HB1 := Aside0.mk hb1; have HGE := Aside0.mk (show w.heap.size ≤ g3 by (rw [hg3]; exact Nat.le_refl _)); clear hA3 hb1 hg3) | ((with_reducible refine zo (f := 143) rfl ?_); (try (refine gate_guard (by rfl) ?_; dsimp only)); refine zy (some 14) rfl rfl Tryd.func143 (by kernel_rfl) rfl #[.slice A1 (fs.length - 1) (c - 1)] rfl (by (try simp only [List.map_toArray, List.map_cons, List.map_nil]); first | done | rfl) ?_; refine (num_drop k w1 A1 c fs vs _ (HC1.out _ (Kd.C_below HR.out HB1.out)) HC.out HF.out HV.out).mono ?_; rintro e w2 ⟨v2, rfl, hr2, hb2⟩; refine ⟨_, rfl, ?_⟩; have HB2 := Aside0.mk (zm HB1.out hb2); have HR2 := Aside0.mk (Kd.R_lower hr2 HB1.out.size); have HA32 := Aside0.mk ((hb2.block _ (zB HA3.out)).trans HA3.out); obtain ⟨AV, cV, eV⟩ := Kd.R_slice hr2; subst eV; have hcB : w2.cell? ⟨gB, 0, none⟩ = some (.slice AB bs.length cB) := zk HB2.out HKB.out; have hcF : w2.cell? ⟨gF, 0, none⟩ = some (.bool _) := zk HB2.out HKF.out; have hcK : w2.cell? ⟨gkk, 0, none⟩ = some (.int .i64 kind) := zk HB2.out HK.out; clear hr2 hb2 hcut) | ((with_reducible refine gate_store (t := 66) (p := 5) rfl ?_); (refine Go.Proofs.YtfiojiokmkiflaaDoorH.store_arr (g := g3) (cells := #[.int .i64 0, .slice none 0 0, .bool false, .string (⟨#[]⟩ : ByteArray), .slice none 0 0]) rfl (t := 66) rfl rfl rfl rfl HA32.out (by kernel_rfl) rfl (by kernel_rfl) ?_; intro w9 hA9_ hg9_; have HA9 := Aside0.mk hA9_; have HG9 := Aside0.mk hg9_; have HB9 := Aside0.mk (zv HB2.out (some g3) HB2.out.size hg9_ (fun k_ hk_ => by injection hk_ with hk_; rw [← hk_]; exact HGE.out)); clear hA9_ hg9_)))
   refine bodyPost_ret (results_list (rs := [.cell 5 66, .tmp 6]) rfl (by simp) (.cell g3 66 _ (0, 0) _ rfl HA9.out Tryd.underlying66 rfl (by kernel_rfl) (.tmp .nil))) rfl ?_
   exact ⟨_, rfl, Kd.R_nil _ _ _ _ _, HB9.out⟩
theorem run_pairat {o : Oper} {a : Act} {q y : Operand} {w : World} {g : Nat} {i : Int} (ho : o.op = .indexAddr 194 q y) (hx : a.eval q = .pointer (some ⟨g, 0, none⟩)) (hy : a.eval y = .int .i64 i) (hi : i = 0 ∨ i = 1) : (execOp a.eval o).run Tryd.prog w = .ok (.value (.pointer (some ⟨g, i.toNat, none⟩))) w := by
 obtain ⟨t_, ht, hz⟩ := Option.map_eq_some_iff.1 (show (Tryd.prog.info? 2).map (·.size) = some 1 by kernel_rfl)
 unfold execOp
 rcases hi with rfl | rfl <;> simp [ho, hx, hy, Instr.indexAt, asIntOf, Instr.sureAddr, run_underlying Tryd.underlying194, sizeOf, typeInfo, ht, hz, Addr.add, Result.andThen]
set_option maxHeartbeats 4000000 in
set_option maxRecDepth 100000 in
theorem counted1_ok (k : Nat) (w : World) (gkk gF gB : Nat) (kind : Int) (free : Bool) (bs : List (Int × Int)) (AB : Option Addr) (cB : Nat) (A : Option Addr) (c : Nat) (fs : List ByteArray) (vs : List Int) (ok : Bool) (hk : w.cell? ⟨gkk, 0, none⟩ = some (.int .i64 kind)) (hkf : w.cell? ⟨gF, 0, none⟩ = some (.bool free)) (hkb : w.cell? ⟨gB, 0, none⟩ = some (.slice AB bs.length cB)) (hbs : ∀ i, i < bs.length → ∃ ad, AB = some ad ∧ w.cell? ((ad.add (i * 2)).add 0) = some (.int .i64 (bs.getD i (0, 0)).1) ∧ w.cell? ((ad.add (i * 2)).add 1) = some (.int .i64 (bs.getD i (0, 0)).2)) (hbl : bs.length ≤ 1000) (hr : Kd.C Kd.string w A fs.length fs) (hc : fs.length ≤ c) (hf : 1 ≤ fs.length) (h : impl_numbers.f k (fs.drop 1) = some (vs, ok)) (hn : ok = true ∧ bs.length ≤ vs.length ∧ (free = true ∨ vs.length ≤ bs.length)) :
  Calls Tryd.prog 142 #[.slice A fs.length c, .pointer (some ⟨gB, 0, none⟩), .pointer (some ⟨gF, 0, none⟩), .pointer (some ⟨gkk, 0, none⟩)] w fun e w' => ∃ v, e = .returned (.tuple #[.agg #[.int .i64 (cnt kind free bs vs ok).1, .slice none 0 0, .bool false, .string (⟨#[]⟩ : ByteArray), v], .bool (cnt kind free bs vs ok).2.2]) ∧ Kd.R (Kd.int .i64) 2 w' w.heap.size (fun _ => True) v (cnt kind free bs vs ok).2.1 ∧ Below w.heap.size w w' := by
 have HK := Aside0.mk hk
 have HKF := Aside0.mk hkf
 have HKB := Aside0.mk hkb
 have HBS := Aside0.mk hbs
 have HBL := Aside0.mk hbl
 have HR := Aside0.mk hr
 have HC := Aside0.mk hc
 have HF := Aside0.mk hf
 have HV := Aside0.mk h
 have hu1 := Tryd.underlying66
 obtain ⟨i0_, hi0_, hz0_⟩ := Option.map_eq_some_iff.1 (show (Tryd.prog.info? 9).map (·.size) = some 1 by kernel_rfl)
 obtain ⟨A1, hcut, hC1⟩ : ∃ A1, (∀ W : World, (Instr.slice 119 (.slice A fs.length c) (some (.int .i64 1)) none none).run Tryd.prog W = .ok (.slice A1 (fs.length - 1) (c - 1)) W) ∧ (∀ W : World, Kd.C Kd.string W A fs.length fs → Kd.C Kd.string W A1 (fs.drop 1).length (fs.drop 1)) :=
  ⟨_, cut_from (P := Tryd.prog) 119 9 .i64 Tryd.underlying119 hi0_ 1 hz0_ A fs.length c 1 (by omega) (by omega), fun W h_ => Kd.C_drop h_ hf hc⟩
 have HC1 := Aside0.mk hC1
 clear hk hkf hkb hbs hbl hr hc hf h hi0_ hz0_ i0_ hC1
 have HCN : Aside0 (cnt kind free bs vs ok = if allB vs bs bs.length = true then (kind, vs, true) else (0, [], false)) := ⟨by unfold cnt; rw [if_pos hn]⟩
 obtain ⟨rfl, h1, h2⟩ := hn
 have HL1 := Aside0.mk h1
 have c1 : decide ((vs.length : Int) < (bs.length : Int)) = false := decide_eq_false (by omega)
 have c3 : decide (vs.length < bs.length) = false := decide_eq_false (by omega)
 have c2 : free = false → decide ((bs.length : Int) < (vs.length : Int)) = false := fun hf_ => decide_eq_false (by rw [hf_] at h2; simp at h2; omega)
 have C2 := Aside0.mk c2
 clear h1 h2 c2
 have hloop : ∀ (Q : Exit → Act → World → Prop), True := fun _ => trivial
 clear hloop
 cases free with
 | false =>
  have c2 := C2.out rfl
  have c4 : decide (bs.length < vs.length) = false := decide_eq_false (by have := of_decide_eq_false c2; omega)
  go_enter Tryd.func142, Tryd.ntmps142
  go_wp2_with (first | ((with_reducible refine zu (N := 5) rfl ?_); refine Go.Proofs.YtfiojiokmkiflaaDoorH.alloc_arr rfl (t := 66) rfl (N := 5) rfl (zs := #[.int .i64 0, .slice none 0 0, .bool false, .string (⟨#[]⟩ : ByteArray), .slice none 0 0]) (n := 5) (by kernel_rfl) ?_; intro g3 hg3 w1 hA3 hb1 _; have HA3 := Aside0.mk hA3; have HB1 := Aside0.mk hb1; have HGE := Aside0.mk (show w.heap.size ≤ g3 by (rw [hg3]; exact Nat.le_refl _)); clear hA3 hb1 hg3) | ((with_reducible refine zo (f := 143) rfl ?_); (try (refine gate_guard (by rfl) ?_; dsimp only)); refine zy (some 14) rfl rfl Tryd.func143 (by kernel_rfl) rfl #[.slice A1 (fs.length - 1) (c - 1)] rfl (by (try simp only [List.map_toArray, List.map_cons, List.map_nil]); first | done | rfl) ?_; refine (num_drop k w1 A1 c fs vs _ (HC1.out _ (Kd.C_below HR.out HB1.out)) HC.out HF.out HV.out).mono ?_; rintro e w2 ⟨v2, rfl, hr2, hb2⟩; refine ⟨_, rfl, ?_⟩; have HB2 := Aside0.mk (zm HB1.out hb2); have HR2 := Aside0.mk (Kd.R_lower hr2 HB1.out.size); have HA32 := Aside0.mk ((hb2.block _ (zB HA3.out)).trans HA3.out); obtain ⟨AV, cV, eV⟩ := Kd.R_slice hr2; subst eV; have hcB : w2.cell? ⟨gB, 0, none⟩ = some (.slice AB bs.length cB) := zk HB2.out HKB.out; have hcF : w2.cell? ⟨gF, 0, none⟩ = some (.bool _) := zk HB2.out HKF.out; have hcK : w2.cell? ⟨gkk, 0, none⟩ = some (.int .i64 kind) := zk HB2.out HK.out; clear hr2 hb2 hcut))
  clear c1 c2 c3 c4 hcB hcF hcK
  go_loopg [40] bs.length (fun kq v40 w' => ∃ (i : Nat) (j : Int), v40 = .int .i64 j ∧ Aside0 (j = (i : Int) ∧ i + kq = bs.length) ∧ Aside0 (allB vs bs i = true) ∧ Aside0 (w'.heap[g3]? = some (.cells #[.int .i64 0, .slice none 0 0, .bool false, .string (⟨#[]⟩ : ByteArray), .slice none 0 0] 66 (0, 0))) ∧ Aside0 (Kd.R (Kd.int .i64) 2 w' w.heap.size (fun _ => True) (.slice AV vs.length cV) vs) ∧ Aside0 (Below w.heap.size w w'))
  case atStart => exact ⟨0, 0, rfl, ⟨rfl, by omega⟩, ⟨rfl⟩, HA32, HR2, HB2⟩
  case round =>
   obtain ⟨i, j, rfl, HI, HAB, HA35, HR5, HB5⟩ := hrel
   cases gk with
   | zero =>
    have c0 : decide (j < (bs.length : Int)) = false := decide_eq_false (by have := HI.out; omega)
    have hcK : wr.cell? ⟨gkk, 0, none⟩ = some (.int .i64 kind) := zk HB5.out HK.out
    have HALL : Aside0 (allB vs bs bs.length = true) := ⟨by have h_ := HAB.out; have := HI.out; rw [show i = bs.length by omega] at h_; exact h_⟩
    go_wp2_with (first | ((with_reducible refine gate_store (t := 66) (p := 5) rfl ?_); (refine Go.Proofs.YtfiojiokmkiflaaDoorH.store_arr (g := g3) (cells := #[.int .i64 kind, .slice none 0 0, .bool false, .string (⟨#[]⟩ : ByteArray), .slice AV vs.length cV]) rfl (t := 66) rfl rfl rfl rfl HA35.out (by kernel_rfl) rfl (by kernel_rfl) ?_; intro w9 hA9_ hg9_; have HA9 := Aside0.mk hA9_; have HG9 := Aside0.mk hg9_; have HB9 := Aside0.mk (zv HB5.out (some g3) HB5.out.size hg9_ (fun k_ hk_ => by injection hk_ with hk_; rw [← hk_]; exact HGE.out)); clear hA9_ hg9_)))
    refine bodyPost_ret (results_list (rs := [.cell 5 66, .tmp 6]) rfl (by simp) (.cell g3 66 _ (0, 0) _ rfl HA9.out Tryd.underlying66 rfl (by kernel_rfl) (.tmp .nil))) rfl ?_
    refine ⟨_, by rw [HCN.out, if_pos HALL.out]; rfl, ?_, HB9.out⟩
    rw [HCN.out, if_pos HALL.out]
    exact Kd.R_mono (Kd.R_grown (Kd.R_types HR5.out HA35.out (by decide)) HG9.out (fun k_ hk_ e_ => hk_.2 (by injection e_))) (fun _ _ => trivial)
   | succ k2 =>
    have p0 : 0 ≤ j := by have := HI.out; omega
    have q0 : j < (bs.length : Int) := by have := HI.out; omega
    have hji : j.toNat = i := by have := HI.out; omega
    have hil : i < bs.length := by have := HI.out; omega
    obtain ⟨ad, eA, hp0, hp1⟩ := HBS.out i hil
    cases eA
    rw [← hji] at hp0 hp1
    have HP0 := Aside0.mk (zk HB5.out hp0)
    have HP1 := Aside0.mk (zk HB5.out hp1)
    obtain ⟨av, eV, hv0⟩ := Kd.at_int (Kd.R_reads' HR5.out).2.2 j p0 (by have := HL1.out; omega)
    cases eV
    obtain ⟨lo, hlo⟩ : ∃ x_, x_ = (bs.getD j.toNat (0, 0)).1 := ⟨_, rfl⟩
    obtain ⟨hi, hhi⟩ : ∃ x_, x_ = (bs.getD j.toNat (0, 0)).2 := ⟨_, rfl⟩
    obtain ⟨x, hx⟩ : ∃ x_, x_ = rd vs j := ⟨_, rfl⟩
    rw [← hlo] at HP0
    rw [← hhi] at HP1
    have HXV : Aside0 (∀ w' : World, Kd.R (Kd.int .i64) 2 w' w.heap.size (fun _ => True) (.slice (some av) vs.length cV) vs → w'.drew.cell? (av.add j.toNat) = some (.int .i64 x)) := ⟨fun w' h_ => by
     obtain ⟨av2, eV2, h2_⟩ := Kd.at_int (Kd.R_reads' (Kd.R_drew h_)).2.2 j p0 (by have := HL1.out; omega)
     cases eV2
     rw [hx]; exact h2_⟩
    have HIN : Aside0 (inB vs bs i = (!(decide (x < lo)) && !(decide (hi < x)))) := ⟨by unfold inB; rw [hx, hlo, hhi, hji]; unfold rd; rw [hji]⟩
    have c0 : decide (j < (bs.length : Int)) = true := decide_eq_true q0
    have q1 : (j < (vs.length : Int)) = True := eq_true (by have := HL1.out; omega)
    have HJ2 : Aside0 (wrap64 (j + 1) = ((i + 1 : Nat) : Int)) := ⟨by have h1_ := HI.out; have h2_ := HBL.out; unfold wrap64; omega⟩
    replace p0 := eq_true p0
    replace q0 := eq_true q0
    clear hp0 hp1 hv0 hlo hhi hx hji hil
    by_cases hl : x < lo
    ·have cl : decide (x < lo) = true := decide_eq_true hl
     have HBAD : Aside0 (¬ allB vs bs bs.length = true) := ⟨fun h_ => by have h2_ := allB_at h_ (show i < bs.length by have := HI.out; omega); rw [HIN.out, cl] at h2_; simp at h2_⟩
     clear hl
     go_wp2_with (first | ((with_reducible refine zu (N := 44) rfl ?_); refine load_pair (ad := ad.add (j.toNat * 2)) (p := lo) (q := hi) rfl rfl (N := 44) rfl rfl HP0.out HP1.out ?_) | ((with_reducible refine zu (N := 10) rfl ?_); refine Go.Proofs.YtfiojiokmkiflaaDoorH.alloc_arr rfl (t := 194) rfl (N := 10) rfl (zs := (Array.replicate 2 (.int .i64 0))) (n := 2) (by kernel_rfl) ?_; intro g10 hg10 w7 hA7 hb7 _; have HA7 := Aside0.mk hA7; have HG10 := Aside0.mk (show w.heap.size ≤ g10 by rw [hg10]; exact HB5.out.size); have HN10 : Aside0 (g10 ≠ g3) := ⟨by have h1_ := zB HA35.out; omega⟩; have HA37 := Aside0.mk ((hb7.block _ (zB HA35.out)).trans HA35.out); have HR7 := Aside0.mk (Kd.R_below HR5.out hb7); have HB7 := Aside0.mk (zm HB5.out hb7); clear hA7 hb7 hg10) | ((with_reducible refine gate_store (t := 194) (p := 10) rfl ?_); (refine Go.Proofs.YtfiojiokmkiflaaDoorH.store_arr (g := g10) (cells := #[.int .i64 lo, .int .i64 hi]) rfl (t := 194) rfl rfl rfl rfl HA7.out (by kernel_rfl) rfl (by kernel_rfl) ?_; intro w8 hA8 hg8; have HA8 := Aside0.mk hA8; have HA38 := Aside0.mk (blk_grown HA37.out hg8 (by intro e_; injection e_ with e_; exact HN10.out e_.symm)); have HR8 := Aside0.mk (Kd.R_mono (Kd.R_grown (Kd.R_types HR7.out HA7.out (by decide)) hg8 (fun k_ hk_ e_ => hk_.2 (by injection e_))) (fun _ _ => trivial)); have HB8 := Aside0.mk (zv HB7.out (some g10) HB7.out.size hg8 (fun k_ hk_ => by injection hk_ with hk_; rw [← hk_]; exact HG10.out)); have hxv : w8.drew.cell? (av.add j.toNat) = some (.int .i64 x) := HXV.out _ HR8.out; clear hA8 hg8)))
     refine start_ (n := 16) (S := fun w' => w'.cell? (av.add j.toNat) = some (.int .i64 x) ∧ w'.cell? ⟨g10, 0, none⟩ = some (.int .i64 lo) ∧ w'.cell? ⟨g10, 1, none⟩ = some (.int .i64 hi)) (ds := []) #[false, false, false, false, false, false, false, false, false, false, false, false, false, false, false, false] (by kernel_rfl) rfl rfl ⟨hxv, (zc (zj HA8.out) 0).trans rfl, (zc (zj HA8.out) 1).trans rfl⟩ (fun hHeld => ?_)
     have HA34 := Aside0.mk (zj HA38.out); have HR4 := Aside0.mk (Kd.R_drew HR8.out); have HB4 := Aside0.mk (below_drew HB8.out); generalize hw4_ : w8.drew = w4 at HA34 HR4 HB4 hHeld ⊢; clear hw4_
     refine pu 0 45 rfl rfl (by kernel_rfl) (fun _ _ _ _ h => h) (by rfl) ⟨_, _, fun w' => by go_simp; rfl, by simp only [pt, ps, p0, p1, zr, zt]; rfl, ?_⟩
     refine pu 1 46 rfl rfl (by kernel_rfl) (fun _ _ _ _ h => h) (by rfl) ⟨_, _, fun w' => by go_simp; rfl, by simp only [pt, ps, p0, p1, zr, zt]; rfl, ?_⟩
     refine pu 2 47 rfl rfl (by kernel_rfl) (fun _ _ _ _ h => h) (by rfl) ⟨_, _, fun w' => by go_simp; rfl, by simp only [pt, ps, p0, p1, zr, zt]; rfl, ?_⟩
     refine pure_ (i := 4) (N := some 49) (v := .pointer (some ⟨g10, 0, none⟩)) (a' := ?_) #[true, true, true, false, true, false, false, false, false, false, false, false, false, false, false, false] rfl rfl (by kernel_rfl) (fun _ _ _ h => h) (Or.inl ⟨by rfl, ?_⟩) ?_ ?_
     ·intro w'
      exact run_pairat (by rfl) (by rfl) (by rfl) (Or.inl rfl)
     rotate_left
     ·simp only [pt, ps, p0, p1, zr, zt]
      rfl
     refine ta 3 48 rfl rfl (by kernel_rfl) (fun _ _ _ _ h => h) (by rfl) hHeld ⟨_, _, by rintro w' ⟨s0, s1, s2⟩; go_simp; rfl, by simp only [pt, ps, p0, p1, zr, zt]; rfl, ?_⟩
     refine ta 5 50 rfl rfl (by kernel_rfl) (fun _ _ _ _ h => h) (by rfl) hHeld ⟨_, _, by rintro w' ⟨s0, s1, s2⟩; go_simp; rfl, by simp only [pt, ps, p0, p1, zr, zt]; rfl, ?_⟩
     refine pu 6 51 rfl rfl (by kernel_rfl) (fun _ _ _ _ h => h) (by rfl) ⟨_, _, fun w' => by go_simp; rfl, by simp only [pt, ps, p0, p1, zr, zt]; rfl, ?_⟩
     refine pu 7 52 rfl rfl (by kernel_rfl) (fun _ _ _ _ h => h) (by rfl) ⟨_, _, fun w' => by go_simp; rfl, by simp only [pt, ps, p0, p1, zr, zt]; rfl, ?_⟩
     refine po 8 53 rfl rfl (by kernel_rfl) (fun _ _ _ _ h => h) (by rfl) ⟨_, by simp only [pt, ps, p0, p1, zr, zt]; rfl, ?_⟩
     refine po 9 54 rfl rfl (by kernel_rfl) (fun _ _ _ _ h => h) (by rfl) ⟨_, by simp only [pt, ps, p0, p1, zr, zt]; rfl, ?_⟩
     refine po 10 55 rfl rfl (by kernel_rfl) (fun _ _ _ _ h => h) (by rfl) ⟨_, by simp only [pt, ps, p0, p1, zr, zt]; rfl, ?_⟩
     refine po 11 56 rfl rfl (by kernel_rfl) (fun _ _ _ _ h => h) (by rfl) ⟨_, by simp only [pt, ps, p0, p1, zr, zt]; rfl, ?_⟩
     refine po 12 57 rfl rfl (by kernel_rfl) (fun _ _ _ _ h => h) (by rfl) ⟨_, by simp only [pt, ps, p0, p1, zr, zt]; rfl, ?_⟩
     refine po 13 58 rfl rfl (by kernel_rfl) (fun _ _ _ _ h => h) (by rfl) ⟨_, by simp only [pt, ps, p0, p1, zr, zt]; rfl, ?_⟩
     refine po 14 59 rfl rfl (by kernel_rfl) (fun _ _ _ _ h => h) (by rfl) ⟨_, by simp only [pt, ps, p0, p1, zr, zt]; rfl, ?_⟩
     refine pu 15 60 rfl rfl (by kernel_rfl) (fun _ _ _ _ h => h) (by rfl) ⟨_, _, fun w' => by go_simp; rfl, by simp only [pt, ps, p0, p1, zr, zt]; rfl, ?_⟩
     refine done_ (by kernel_rfl) ?_
     go_wp2_with (first | ((with_reducible refine gate_store (t := 66) (p := 5) rfl ?_); (refine Go.Proofs.YtfiojiokmkiflaaDoorH.store_arr (g := g3) (cells := #[.int .i64 0, .slice none 0 0, .bool false, .string (⟨#[]⟩ : ByteArray), .slice none 0 0]) rfl (t := 66) rfl rfl rfl rfl HA34.out (by kernel_rfl) rfl (by kernel_rfl) ?_; intro w9 hA9_ hg9_; have HA9 := Aside0.mk hA9_; have HG9 := Aside0.mk hg9_; have HB9 := Aside0.mk (zv HB4.out (some g3) HB4.out.size hg9_ (fun k_ hk_ => by injection hk_ with hk_; rw [← hk_]; exact HGE.out)); clear hA9_ hg9_)))
     refine bodyPost_ret (results_list (rs := [.cell 5 66, .tmp 6]) rfl (by simp) (.cell g3 66 _ (0, 0) _ rfl HA9.out Tryd.underlying66 rfl (by kernel_rfl) (.tmp .nil))) rfl ?_
     refine ⟨_, by rw [HCN.out, if_neg HBAD.out]; rfl, ?_, HB9.out⟩
     rw [HCN.out, if_neg HBAD.out]
     exact Kd.R_nil _ _ _ _ _
    ·have cl : decide (x < lo) = false := decide_eq_false hl
     clear hl
     by_cases hg : hi < x
     ·have cg : decide (hi < x) = true := decide_eq_true hg
      have HBAD : Aside0 (¬ allB vs bs bs.length = true) := ⟨fun h_ => by have h2_ := allB_at h_ (show i < bs.length by have := HI.out; omega); rw [HIN.out, cg] at h2_; simp at h2_⟩
      clear hg
      go_wp2_with (first | ((with_reducible refine zu (N := 44) rfl ?_); refine load_pair (ad := ad.add (j.toNat * 2)) (p := lo) (q := hi) rfl rfl (N := 44) rfl rfl HP0.out HP1.out ?_) | ((with_reducible refine zu (N := 10) rfl ?_); refine Go.Proofs.YtfiojiokmkiflaaDoorH.alloc_arr rfl (t := 194) rfl (N := 10) rfl (zs := (Array.replicate 2 (.int .i64 0))) (n := 2) (by kernel_rfl) ?_; intro g10 hg10 w7 hA7 hb7 _; have HA7 := Aside0.mk hA7; have HG10 := Aside0.mk (show w.heap.size ≤ g10 by rw [hg10]; exact HB5.out.size); have HN10 : Aside0 (g10 ≠ g3) := ⟨by have h1_ := zB HA35.out; omega⟩; have HA37 := Aside0.mk ((hb7.block _ (zB HA35.out)).trans HA35.out); have HR7 := Aside0.mk (Kd.R_below HR5.out hb7); have HB7 := Aside0.mk (zm HB5.out hb7); clear hA7 hb7 hg10) | ((with_reducible refine gate_store (t := 194) (p := 10) rfl ?_); (refine Go.Proofs.YtfiojiokmkiflaaDoorH.store_arr (g := g10) (cells := #[.int .i64 lo, .int .i64 hi]) rfl (t := 194) rfl rfl rfl rfl HA7.out (by kernel_rfl) rfl (by kernel_rfl) ?_; intro w8 hA8 hg8; have HA8 := Aside0.mk hA8; have HA38 := Aside0.mk (blk_grown HA37.out hg8 (by intro e_; injection e_ with e_; exact HN10.out e_.symm)); have HR8 := Aside0.mk (Kd.R_mono (Kd.R_grown (Kd.R_types HR7.out HA7.out (by decide)) hg8 (fun k_ hk_ e_ => hk_.2 (by injection e_))) (fun _ _ => trivial)); have HB8 := Aside0.mk (zv HB7.out (some g10) HB7.out.size hg8 (fun k_ hk_ => by injection hk_ with hk_; rw [← hk_]; exact HG10.out)); have hxv : w8.drew.cell? (av.add j.toNat) = some (.int .i64 x) := HXV.out _ HR8.out; clear hA8 hg8)))
      refine start_ (n := 16) (S := fun w' => w'.cell? (av.add j.toNat) = some (.int .i64 x) ∧ w'.cell? ⟨g10, 0, none⟩ = some (.int .i64 lo) ∧ w'.cell? ⟨g10, 1, none⟩ = some (.int .i64 hi)) (ds := []) #[false, false, false, false, false, false, false, false, false, false, false, false, false, false, false, false] (by kernel_rfl) rfl rfl ⟨hxv, (zc (zj HA8.out) 0).trans rfl, (zc (zj HA8.out) 1).trans rfl⟩ (fun hHeld => ?_)
      have HA34 := Aside0.mk (zj HA38.out); have HR4 := Aside0.mk (Kd.R_drew HR8.out); have HB4 := Aside0.mk (below_drew HB8.out); generalize hw4_ : w8.drew = w4 at HA34 HR4 HB4 hHeld ⊢; clear hw4_
      refine pu 0 45 rfl rfl (by kernel_rfl) (fun _ _ _ _ h => h) (by rfl) ⟨_, _, fun w' => by go_simp; rfl, by simp only [pt, ps, p0, p1, zr, zt]; rfl, ?_⟩
      refine pu 1 46 rfl rfl (by kernel_rfl) (fun _ _ _ _ h => h) (by rfl) ⟨_, _, fun w' => by go_simp; rfl, by simp only [pt, ps, p0, p1, zr, zt]; rfl, ?_⟩
      refine pu 2 47 rfl rfl (by kernel_rfl) (fun _ _ _ _ h => h) (by rfl) ⟨_, _, fun w' => by go_simp; rfl, by simp only [pt, ps, p0, p1, zr, zt]; rfl, ?_⟩
      refine pure_ (i := 4) (N := some 49) (v := .pointer (some ⟨g10, 0, none⟩)) (a' := ?_) #[true, true, true, false, true, false, false, false, false, false, false, false, false, false, false, false] rfl rfl (by kernel_rfl) (fun _ _ _ h => h) (Or.inl ⟨by rfl, ?_⟩) ?_ ?_
      ·intro w'
       exact run_pairat (by rfl) (by rfl) (by rfl) (Or.inl rfl)
      rotate_left
      ·simp only [pt, ps, p0, p1, zr, zt]
       rfl
      refine ta 3 48 rfl rfl (by kernel_rfl) (fun _ _ _ _ h => h) (by rfl) hHeld ⟨_, _, by rintro w' ⟨s0, s1, s2⟩; go_simp; rfl, by simp only [pt, ps, p0, p1, zr, zt]; rfl, ?_⟩
      refine ta 5 50 rfl rfl (by kernel_rfl) (fun _ _ _ _ h => h) (by rfl) hHeld ⟨_, _, by rintro w' ⟨s0, s1, s2⟩; go_simp; rfl, by simp only [pt, ps, p0, p1, zr, zt]; rfl, ?_⟩
      refine pu 6 51 rfl rfl (by kernel_rfl) (fun _ _ _ _ h => h) (by rfl) ⟨_, _, fun w' => by go_simp; rfl, by simp only [pt, ps, p0, p1, zr, zt]; rfl, ?_⟩
      refine pu 7 52 rfl rfl (by kernel_rfl) (fun _ _ _ _ h => h) (by rfl) ⟨_, _, fun w' => by go_simp; rfl, by simp only [pt, ps, p0, p1, zr, zt]; rfl, ?_⟩
      refine pu 8 53 rfl rfl (by kernel_rfl) (fun _ _ _ _ h => h) (by rfl) ⟨_, _, fun w' => by go_simp; rfl, by simp only [pt, ps, p0, p1, zr, zt]; rfl, ?_⟩
      refine pu 9 54 rfl rfl (by kernel_rfl) (fun _ _ _ _ h => h) (by rfl) ⟨_, _, fun w' => by go_simp; rfl, by simp only [pt, ps, p0, p1, zr, zt]; rfl, ?_⟩
      refine pu 10 55 rfl rfl (by kernel_rfl) (fun _ _ _ _ h => h) (by rfl) ⟨_, _, fun w' => by go_simp; rfl, by simp only [pt, ps, p0, p1, zr, zt]; rfl, ?_⟩
      refine pure_ (i := 12) (N := some 57) (v := .pointer (some ⟨g10, 1, none⟩)) (a' := ?_) #[true, true, true, true, true, true, true, true, true, true, true, false, true, false, false, false] rfl rfl (by kernel_rfl) (fun _ _ _ h => h) (Or.inl ⟨by rfl, ?_⟩) ?_ ?_
      ·intro w'
       exact run_pairat (by rfl) (by rfl) (by rfl) (Or.inr rfl)
      rotate_left
      ·simp only [pt, ps, p0, p1, zr, zt]
       rfl
      refine ta 11 56 rfl rfl (by kernel_rfl) (fun _ _ _ _ h => h) (by rfl) hHeld ⟨_, _, by rintro w' ⟨s0, s1, s2⟩; go_simp; rfl, by simp only [pt, ps, p0, p1, zr, zt]; rfl, ?_⟩
      refine ta 13 58 rfl rfl (by kernel_rfl) (fun _ _ _ _ h => h) (by rfl) hHeld ⟨_, _, by rintro w' ⟨s0, s1, s2⟩; go_simp; rfl, by simp only [pt, ps, p0, p1, zr, zt]; rfl, ?_⟩
      refine pu 14 59 rfl rfl (by kernel_rfl) (fun _ _ _ _ h => h) (by rfl) ⟨_, _, fun w' => by go_simp; rfl, by simp only [pt, ps, p0, p1, zr, zt]; rfl, ?_⟩
      refine pu 15 60 rfl rfl (by kernel_rfl) (fun _ _ _ _ h => h) (by rfl) ⟨_, _, fun w' => by go_simp; rfl, by simp only [pt, ps, p0, p1, zr, zt]; rfl, ?_⟩
      refine done_ (by kernel_rfl) ?_
      go_wp2_with (first | ((with_reducible refine gate_store (t := 66) (p := 5) rfl ?_); (refine Go.Proofs.YtfiojiokmkiflaaDoorH.store_arr (g := g3) (cells := #[.int .i64 0, .slice none 0 0, .bool false, .string (⟨#[]⟩ : ByteArray), .slice none 0 0]) rfl (t := 66) rfl rfl rfl rfl HA34.out (by kernel_rfl) rfl (by kernel_rfl) ?_; intro w9 hA9_ hg9_; have HA9 := Aside0.mk hA9_; have HG9 := Aside0.mk hg9_; have HB9 := Aside0.mk (zv HB4.out (some g3) HB4.out.size hg9_ (fun k_ hk_ => by injection hk_ with hk_; rw [← hk_]; exact HGE.out)); clear hA9_ hg9_)))
      refine bodyPost_ret (results_list (rs := [.cell 5 66, .tmp 6]) rfl (by simp) (.cell g3 66 _ (0, 0) _ rfl HA9.out Tryd.underlying66 rfl (by kernel_rfl) (.tmp .nil))) rfl ?_
      refine ⟨_, by rw [HCN.out, if_neg HBAD.out]; rfl, ?_, HB9.out⟩
      rw [HCN.out, if_neg HBAD.out]
      exact Kd.R_nil _ _ _ _ _
     ·have cg : decide (hi < x) = false := decide_eq_false hg
      have HOK : Aside0 (allB vs bs (i + 1) = true) := ⟨by simp only [allB, HAB.out, HIN.out, cl, cg]; rfl⟩
      clear hg
      go_wp2_with (first | ((with_reducible refine zu (N := 44) rfl ?_); refine load_pair (ad := ad.add (j.toNat * 2)) (p := lo) (q := hi) rfl rfl (N := 44) rfl rfl HP0.out HP1.out ?_) | ((with_reducible refine zu (N := 10) rfl ?_); refine Go.Proofs.YtfiojiokmkiflaaDoorH.alloc_arr rfl (t := 194) rfl (N := 10) rfl (zs := (Array.replicate 2 (.int .i64 0))) (n := 2) (by kernel_rfl) ?_; intro g10 hg10 w7 hA7 hb7 _; have HA7 := Aside0.mk hA7; have HG10 := Aside0.mk (show w.heap.size ≤ g10 by rw [hg10]; exact HB5.out.size); have HN10 : Aside0 (g10 ≠ g3) := ⟨by have h1_ := zB HA35.out; omega⟩; have HA37 := Aside0.mk ((hb7.block _ (zB HA35.out)).trans HA35.out); have HR7 := Aside0.mk (Kd.R_below HR5.out hb7); have HB7 := Aside0.mk (zm HB5.out hb7); clear hA7 hb7 hg10) | ((with_reducible refine gate_store (t := 194) (p := 10) rfl ?_); (refine Go.Proofs.YtfiojiokmkiflaaDoorH.store_arr (g := g10) (cells := #[.int .i64 lo, .int .i64 hi]) rfl (t := 194) rfl rfl rfl rfl HA7.out (by kernel_rfl) rfl (by kernel_rfl) ?_; intro w8 hA8 hg8; have HA8 := Aside0.mk hA8; have HA38 := Aside0.mk (blk_grown HA37.out hg8 (by intro e_; injection e_ with e_; exact HN10.out e_.symm)); have HR8 := Aside0.mk (Kd.R_mono (Kd.R_grown (Kd.R_types HR7.out HA7.out (by decide)) hg8 (fun k_ hk_ e_ => hk_.2 (by injection e_))) (fun _ _ => trivial)); have HB8 := Aside0.mk (zv HB7.out (some g10) HB7.out.size hg8 (fun k_ hk_ => by injection hk_ with hk_; rw [← hk_]; exact HG10.out)); have hxv : w8.drew.cell? (av.add j.toNat) = some (.int .i64 x) := HXV.out _ HR8.out; clear hA8 hg8)))
      refine start_ (n := 16) (S := fun w' => w'.cell? (av.add j.toNat) = some (.int .i64 x) ∧ w'.cell? ⟨g10, 0, none⟩ = some (.int .i64 lo) ∧ w'.cell? ⟨g10, 1, none⟩ = some (.int .i64 hi)) (ds := []) #[false, false, false, false, false, false, false, false, false, false, false, false, false, false, false, false] (by kernel_rfl) rfl rfl ⟨hxv, (zc (zj HA8.out) 0).trans rfl, (zc (zj HA8.out) 1).trans rfl⟩ (fun hHeld => ?_)
      have HA34 := Aside0.mk (zj HA38.out); have HR4 := Aside0.mk (Kd.R_drew HR8.out); have HB4 := Aside0.mk (below_drew HB8.out); generalize hw4_ : w8.drew = w4 at HA34 HR4 HB4 hHeld ⊢; clear hw4_
      refine pu 0 45 rfl rfl (by kernel_rfl) (fun _ _ _ _ h => h) (by rfl) ⟨_, _, fun w' => by go_simp; rfl, by simp only [pt, ps, p0, p1, zr, zt]; rfl, ?_⟩
      refine pu 1 46 rfl rfl (by kernel_rfl) (fun _ _ _ _ h => h) (by rfl) ⟨_, _, fun w' => by go_simp; rfl, by simp only [pt, ps, p0, p1, zr, zt]; rfl, ?_⟩
      refine pu 2 47 rfl rfl (by kernel_rfl) (fun _ _ _ _ h => h) (by rfl) ⟨_, _, fun w' => by go_simp; rfl, by simp only [pt, ps, p0, p1, zr, zt]; rfl, ?_⟩
      refine pure_ (i := 4) (N := some 49) (v := .pointer (some ⟨g10, 0, none⟩)) (a' := ?_) #[true, true, true, false, true, false, false, false, false, false, false, false, false, false, false, false] rfl rfl (by kernel_rfl) (fun _ _ _ h => h) (Or.inl ⟨by rfl, ?_⟩) ?_ ?_
      ·intro w'
       exact run_pairat (by rfl) (by rfl) (by rfl) (Or.inl rfl)
      rotate_left
      ·simp only [pt, ps, p0, p1, zr, zt]
       rfl
      refine ta 3 48 rfl rfl (by kernel_rfl) (fun _ _ _ _ h => h) (by rfl) hHeld ⟨_, _, by rintro w' ⟨s0, s1, s2⟩; go_simp; rfl, by simp only [pt, ps, p0, p1, zr, zt]; rfl, ?_⟩
      refine ta 5 50 rfl rfl (by kernel_rfl) (fun _ _ _ _ h => h) (by rfl) hHeld ⟨_, _, by rintro w' ⟨s0, s1, s2⟩; go_simp; rfl, by simp only [pt, ps, p0, p1, zr, zt]; rfl, ?_⟩
      refine pu 6 51 rfl rfl (by kernel_rfl) (fun _ _ _ _ h => h) (by rfl) ⟨_, _, fun w' => by go_simp; rfl, by simp only [pt, ps, p0, p1, zr, zt]; rfl, ?_⟩
      refine pu 7 52 rfl rfl (by kernel_rfl) (fun _ _ _ _ h => h) (by rfl) ⟨_, _, fun w' => by go_simp; rfl, by simp only [pt, ps, p0, p1, zr, zt]; rfl, ?_⟩
      refine pu 8 53 rfl rfl (by kernel_rfl) (fun _ _ _ _ h => h) (by rfl) ⟨_, _, fun w' => by go_simp; rfl, by simp only [pt, ps, p0, p1, zr, zt]; rfl, ?_⟩
      refine pu 9 54 rfl rfl (by kernel_rfl) (fun _ _ _ _ h => h) (by rfl) ⟨_, _, fun w' => by go_simp; rfl, by simp only [pt, ps, p0, p1, zr, zt]; rfl, ?_⟩
      refine pu 10 55 rfl rfl (by kernel_rfl) (fun _ _ _ _ h => h) (by rfl) ⟨_, _, fun w' => by go_simp; rfl, by simp only [pt, ps, p0, p1, zr, zt]; rfl, ?_⟩
      refine pure_ (i := 12) (N := some 57) (v := .pointer (some ⟨g10, 1, none⟩)) (a' := ?_) #[true, true, true, true, true, true, true, true, true, true, true, false, true, false, false, false] rfl rfl (by kernel_rfl) (fun _ _ _ h => h) (Or.inl ⟨by rfl, ?_⟩) ?_ ?_
      ·intro w'
       exact run_pairat (by rfl) (by rfl) (by rfl) (Or.inr rfl)
      rotate_left
      ·simp only [pt, ps, p0, p1, zr, zt]
       rfl
      refine ta 11 56 rfl rfl (by kernel_rfl) (fun _ _ _ _ h => h) (by rfl) hHeld ⟨_, _, by rintro w' ⟨s0, s1, s2⟩; go_simp; rfl, by simp only [pt, ps, p0, p1, zr, zt]; rfl, ?_⟩
      refine ta 13 58 rfl rfl (by kernel_rfl) (fun _ _ _ _ h => h) (by rfl) hHeld ⟨_, _, by rintro w' ⟨s0, s1, s2⟩; go_simp; rfl, by simp only [pt, ps, p0, p1, zr, zt]; rfl, ?_⟩
      refine pu 14 59 rfl rfl (by kernel_rfl) (fun _ _ _ _ h => h) (by rfl) ⟨_, _, fun w' => by go_simp; rfl, by simp only [pt, ps, p0, p1, zr, zt]; rfl, ?_⟩
      refine pu 15 60 rfl rfl (by kernel_rfl) (fun _ _ _ _ h => h) (by rfl) ⟨_, _, fun w' => by go_simp; rfl, by simp only [pt, ps, p0, p1, zr, zt]; rfl, ?_⟩
      refine done_ (by kernel_rfl) ?_
      go_wp2
      go_roundg k2
      case measure => omega
      case rel => exact ⟨i + 1, wrap64 (j + 1), rfl, ⟨HJ2.out, by have := HI.out; omega⟩, HOK, HA34, HR4, HB4⟩
 | true =>
  go_enter Tryd.func142, Tryd.ntmps142
  go_wp2_with (first | ((with_reducible refine zu (N := 5) rfl ?_); refine Go.Proofs.YtfiojiokmkiflaaDoorH.alloc_arr rfl (t := 66) rfl (N := 5) rfl (zs := #[.int .i64 0, .slice none 0 0, .bool false, .string (⟨#[]⟩ : ByteArray), .slice none 0 0]) (n := 5) (by kernel_rfl) ?_; intro g3 hg3 w1 hA3 hb1 _; have HA3 := Aside0.mk hA3; have HB1 := Aside0.mk hb1; have HGE := Aside0.mk (show w.heap.size ≤ g3 by (rw [hg3]; exact Nat.le_refl _)); clear hA3 hb1 hg3) | ((with_reducible refine zo (f := 143) rfl ?_); (try (refine gate_guard (by rfl) ?_; dsimp only)); refine zy (some 14) rfl rfl Tryd.func143 (by kernel_rfl) rfl #[.slice A1 (fs.length - 1) (c - 1)] rfl (by (try simp only [List.map_toArray, List.map_cons, List.map_nil]); first | done | rfl) ?_; refine (num_drop k w1 A1 c fs vs _ (HC1.out _ (Kd.C_below HR.out HB1.out)) HC.out HF.out HV.out).mono ?_; rintro e w2 ⟨v2, rfl, hr2, hb2⟩; refine ⟨_, rfl, ?_⟩; have HB2 := Aside0.mk (zm HB1.out hb2); have HR2 := Aside0.mk (Kd.R_lower hr2 HB1.out.size); have HA32 := Aside0.mk ((hb2.block _ (zB HA3.out)).trans HA3.out); obtain ⟨AV, cV, eV⟩ := Kd.R_slice hr2; subst eV; have hcB : w2.cell? ⟨gB, 0, none⟩ = some (.slice AB bs.length cB) := zk HB2.out HKB.out; have hcF : w2.cell? ⟨gF, 0, none⟩ = some (.bool _) := zk HB2.out HKF.out; have hcK : w2.cell? ⟨gkk, 0, none⟩ = some (.int .i64 kind) := zk HB2.out HK.out; clear hr2 hb2 hcut))
  clear c1 c3 hcB hcF hcK
  go_loopg [40] bs.length (fun kq v40 w' => ∃ (i : Nat) (j : Int), v40 = .int .i64 j ∧ Aside0 (j = (i : Int) ∧ i + kq = bs.length) ∧ Aside0 (allB vs bs i = true) ∧ Aside0 (w'.heap[g3]? = some (.cells #[.int .i64 0, .slice none 0 0, .bool false, .string (⟨#[]⟩ : ByteArray), .slice none 0 0] 66 (0, 0))) ∧ Aside0 (Kd.R (Kd.int .i64) 2 w' w.heap.size (fun _ => True) (.slice AV vs.length cV) vs) ∧ Aside0 (Below w.heap.size w w'))
  case atStart => exact ⟨0, 0, rfl, ⟨rfl, by omega⟩, ⟨rfl⟩, HA32, HR2, HB2⟩
  case round =>
   obtain ⟨i, j, rfl, HI, HAB, HA35, HR5, HB5⟩ := hrel
   cases gk with
   | zero =>
    have c0 : decide (j < (bs.length : Int)) = false := decide_eq_false (by have := HI.out; omega)
    have hcK : wr.cell? ⟨gkk, 0, none⟩ = some (.int .i64 kind) := zk HB5.out HK.out
    have HALL : Aside0 (allB vs bs bs.length = true) := ⟨by have h_ := HAB.out; have := HI.out; rw [show i = bs.length by omega] at h_; exact h_⟩
    go_wp2_with (first | ((with_reducible refine gate_store (t := 66) (p := 5) rfl ?_); (refine Go.Proofs.YtfiojiokmkiflaaDoorH.store_arr (g := g3) (cells := #[.int .i64 kind, .slice none 0 0, .bool false, .string (⟨#[]⟩ : ByteArray), .slice AV vs.length cV]) rfl (t := 66) rfl rfl rfl rfl HA35.out (by kernel_rfl) rfl (by kernel_rfl) ?_; intro w9 hA9_ hg9_; have HA9 := Aside0.mk hA9_; have HG9 := Aside0.mk hg9_; have HB9 := Aside0.mk (zv HB5.out (some g3) HB5.out.size hg9_ (fun k_ hk_ => by injection hk_ with hk_; rw [← hk_]; exact HGE.out)); clear hA9_ hg9_)))
    refine bodyPost_ret (results_list (rs := [.cell 5 66, .tmp 6]) rfl (by simp) (.cell g3 66 _ (0, 0) _ rfl HA9.out Tryd.underlying66 rfl (by kernel_rfl) (.tmp .nil))) rfl ?_
    refine ⟨_, by rw [HCN.out, if_pos HALL.out]; rfl, ?_, HB9.out⟩
    rw [HCN.out, if_pos HALL.out]
    exact Kd.R_mono (Kd.R_grown (Kd.R_types HR5.out HA35.out (by decide)) HG9.out (fun k_ hk_ e_ => hk_.2 (by injection e_))) (fun _ _ => trivial)
   | succ k2 =>
    have p0 : 0 ≤ j := by have := HI.out; omega
    have q0 : j < (bs.length : Int) := by have := HI.out; omega
    have hji : j.toNat = i := by have := HI.out; omega
    have hil : i < bs.length := by have := HI.out; omega
    obtain ⟨ad, eA, hp0, hp1⟩ := HBS.out i hil
    cases eA
    rw [← hji] at hp0 hp1
    have HP0 := Aside0.mk (zk HB5.out hp0)
    have HP1 := Aside0.mk (zk HB5.out hp1)
    obtain ⟨av, eV, hv0⟩ := Kd.at_int (Kd.R_reads' HR5.out).2.2 j p0 (by have := HL1.out; omega)
    cases eV
    obtain ⟨lo, hlo⟩ : ∃ x_, x_ = (bs.getD j.toNat (0, 0)).1 := ⟨_, rfl⟩
    obtain ⟨hi, hhi⟩ : ∃ x_, x_ = (bs.getD j.toNat (0, 0)).2 := ⟨_, rfl⟩
    obtain ⟨x, hx⟩ : ∃ x_, x_ = rd vs j := ⟨_, rfl⟩
    rw [← hlo] at HP0
    rw [← hhi] at HP1
    have HXV : Aside0 (∀ w' : World, Kd.R (Kd.int .i64) 2 w' w.heap.size (fun _ => True) (.slice (some av) vs.length cV) vs → w'.drew.cell? (av.add j.toNat) = some (.int .i64 x)) := ⟨fun w' h_ => by
     obtain ⟨av2, eV2, h2_⟩ := Kd.at_int (Kd.R_reads' (Kd.R_drew h_)).2.2 j p0 (by have := HL1.out; omega)
     cases eV2
     rw [hx]; exact h2_⟩
    have HIN : Aside0 (inB vs bs i = (!(decide (x < lo)) && !(decide (hi < x)))) := ⟨by unfold inB; rw [hx, hlo, hhi, hji]; unfold rd; rw [hji]⟩
    have c0 : decide (j < (bs.length : Int)) = true := decide_eq_true q0
    have q1 : (j < (vs.length : Int)) = True := eq_true (by have := HL1.out; omega)
    have HJ2 : Aside0 (wrap64 (j + 1) = ((i + 1 : Nat) : Int)) := ⟨by have h1_ := HI.out; have h2_ := HBL.out; unfold wrap64; omega⟩
    replace p0 := eq_true p0
    replace q0 := eq_true q0
    clear hp0 hp1 hv0 hlo hhi hx hji hil
    by_cases hl : x < lo
    ·have cl : decide (x < lo) = true := decide_eq_true hl
     have HBAD : Aside0 (¬ allB vs bs bs.length = true) := ⟨fun h_ => by have h2_ := allB_at h_ (show i < bs.length by have := HI.out; omega); rw [HIN.out, cl] at h2_; simp at h2_⟩
     clear hl
     go_wp2_with (first | ((with_reducible refine zu (N := 44) rfl ?_); refine load_pair (ad := ad.add (j.toNat * 2)) (p := lo) (q := hi) rfl rfl (N := 44) rfl rfl HP0.out HP1.out ?_) | ((with_reducible refine zu (N := 10) rfl ?_); refine Go.Proofs.YtfiojiokmkiflaaDoorH.alloc_arr rfl (t := 194) rfl (N := 10) rfl (zs := (Array.replicate 2 (.int .i64 0))) (n := 2) (by kernel_rfl) ?_; intro g10 hg10 w7 hA7 hb7 _; have HA7 := Aside0.mk hA7; have HG10 := Aside0.mk (show w.heap.size ≤ g10 by rw [hg10]; exact HB5.out.size); have HN10 : Aside0 (g10 ≠ g3) := ⟨by have h1_ := zB HA35.out; omega⟩; have HA37 := Aside0.mk ((hb7.block _ (zB HA35.out)).trans HA35.out); have HR7 := Aside0.mk (Kd.R_below HR5.out hb7); have HB7 := Aside0.mk (zm HB5.out hb7); clear hA7 hb7 hg10) | ((with_reducible refine gate_store (t := 194) (p := 10) rfl ?_); (refine Go.Proofs.YtfiojiokmkiflaaDoorH.store_arr (g := g10) (cells := #[.int .i64 lo, .int .i64 hi]) rfl (t := 194) rfl rfl rfl rfl HA7.out (by kernel_rfl) rfl (by kernel_rfl) ?_; intro w8 hA8 hg8; have HA8 := Aside0.mk hA8; have HA38 := Aside0.mk (blk_grown HA37.out hg8 (by intro e_; injection e_ with e_; exact HN10.out e_.symm)); have HR8 := Aside0.mk (Kd.R_mono (Kd.R_grown (Kd.R_types HR7.out HA7.out (by decide)) hg8 (fun k_ hk_ e_ => hk_.2 (by injection e_))) (fun _ _ => trivial)); have HB8 := Aside0.mk (zv HB7.out (some g10) HB7.out.size hg8 (fun k_ hk_ => by injection hk_ with hk_; rw [← hk_]; exact HG10.out)); have hxv : w8.drew.cell? (av.add j.toNat) = some (.int .i64 x) := HXV.out _ HR8.out; clear hA8 hg8)))
     refine start_ (n := 16) (S := fun w' => w'.cell? (av.add j.toNat) = some (.int .i64 x) ∧ w'.cell? ⟨g10, 0, none⟩ = some (.int .i64 lo) ∧ w'.cell? ⟨g10, 1, none⟩ = some (.int .i64 hi)) (ds := []) #[false, false, false, false, false, false, false, false, false, false, false, false, false, false, false, false] (by kernel_rfl) rfl rfl ⟨hxv, (zc (zj HA8.out) 0).trans rfl, (zc (zj HA8.out) 1).trans rfl⟩ (fun hHeld => ?_)
     have HA34 := Aside0.mk (zj HA38.out); have HR4 := Aside0.mk (Kd.R_drew HR8.out); have HB4 := Aside0.mk (below_drew HB8.out); generalize hw4_ : w8.drew = w4 at HA34 HR4 HB4 hHeld ⊢; clear hw4_
     refine pu 0 45 rfl rfl (by kernel_rfl) (fun _ _ _ _ h => h) (by rfl) ⟨_, _, fun w' => by go_simp; rfl, by simp only [pt, ps, p0, p1, zr, zt]; rfl, ?_⟩
     refine pu 1 46 rfl rfl (by kernel_rfl) (fun _ _ _ _ h => h) (by rfl) ⟨_, _, fun w' => by go_simp; rfl, by simp only [pt, ps, p0, p1, zr, zt]; rfl, ?_⟩
     refine pu 2 47 rfl rfl (by kernel_rfl) (fun _ _ _ _ h => h) (by rfl) ⟨_, _, fun w' => by go_simp; rfl, by simp only [pt, ps, p0, p1, zr, zt]; rfl, ?_⟩
     refine pure_ (i := 4) (N := some 49) (v := .pointer (some ⟨g10, 0, none⟩)) (a' := ?_) #[true, true, true, false, true, false, false, false, false, false, false, false, false, false, false, false] rfl rfl (by kernel_rfl) (fun _ _ _ h => h) (Or.inl ⟨by rfl, ?_⟩) ?_ ?_
     ·intro w'
      exact run_pairat (by rfl) (by rfl) (by rfl) (Or.inl rfl)
     rotate_left
     ·simp only [pt, ps, p0, p1, zr, zt]
      rfl
     refine ta 3 48 rfl rfl (by kernel_rfl) (fun _ _ _ _ h => h) (by rfl) hHeld ⟨_, _, by rintro w' ⟨s0, s1, s2⟩; go_simp; rfl, by simp only [pt, ps, p0, p1, zr, zt]; rfl, ?_⟩
     refine ta 5 50 rfl rfl (by kernel_rfl) (fun _ _ _ _ h => h) (by rfl) hHeld ⟨_, _, by rintro w' ⟨s0, s1, s2⟩; go_simp; rfl, by simp only [pt, ps, p0, p1, zr, zt]; rfl, ?_⟩
     refine pu 6 51 rfl rfl (by kernel_rfl) (fun _ _ _ _ h => h) (by rfl) ⟨_, _, fun w' => by go_simp; rfl, by simp only [pt, ps, p0, p1, zr, zt]; rfl, ?_⟩
     refine pu 7 52 rfl rfl (by kernel_rfl) (fun _ _ _ _ h => h) (by rfl) ⟨_, _, fun w' => by go_simp; rfl, by simp only [pt, ps, p0, p1, zr, zt]; rfl, ?_⟩
     refine po 8 53 rfl rfl (by kernel_rfl) (fun _ _ _ _ h => h) (by rfl) ⟨_, by simp only [pt, ps, p0, p1, zr, zt]; rfl, ?_⟩
     refine po 9 54 rfl rfl (by kernel_rfl) (fun _ _ _ _ h => h) (by rfl) ⟨_, by simp only [pt, ps, p0, p1, zr, zt]; rfl, ?_⟩
     refine po 10 55 rfl rfl (by kernel_rfl) (fun _ _ _ _ h => h) (by rfl) ⟨_, by simp only [pt, ps, p0, p1, zr, zt]; rfl, ?_⟩
     refine po 11 56 rfl rfl (by kernel_rfl) (fun _ _ _ _ h => h) (by rfl) ⟨_, by simp only [pt, ps, p0, p1, zr, zt]; rfl, ?_⟩
     refine po 12 57 rfl rfl (by kernel_rfl) (fun _ _ _ _ h => h) (by rfl) ⟨_, by simp only [pt, ps, p0, p1, zr, zt]; rfl, ?_⟩
     refine po 13 58 rfl rfl (by kernel_rfl) (fun _ _ _ _ h => h) (by rfl) ⟨_, by simp only [pt, ps, p0, p1, zr, zt]; rfl, ?_⟩
     refine po 14 59 rfl rfl (by kernel_rfl) (fun _ _ _ _ h => h) (by rfl) ⟨_, by simp only [pt, ps, p0, p1, zr, zt]; rfl, ?_⟩
     refine pu 15 60 rfl rfl (by kernel_rfl) (fun _ _ _ _ h => h) (by rfl) ⟨_, _, fun w' => by go_simp; rfl, by simp only [pt, ps, p0, p1, zr, zt]; rfl, ?_⟩
     refine done_ (by kernel_rfl) ?_
     go_wp2_with (first | ((with_reducible refine gate_store (t := 66) (p := 5) rfl ?_); (refine Go.Proofs.YtfiojiokmkiflaaDoorH.store_arr (g := g3) (cells := #[.int .i64 0, .slice none 0 0, .bool false, .string (⟨#[]⟩ : ByteArray), .slice none 0 0]) rfl (t := 66) rfl rfl rfl rfl HA34.out (by kernel_rfl) rfl (by kernel_rfl) ?_; intro w9 hA9_ hg9_; have HA9 := Aside0.mk hA9_; have HG9 := Aside0.mk hg9_; have HB9 := Aside0.mk (zv HB4.out (some g3) HB4.out.size hg9_ (fun k_ hk_ => by injection hk_ with hk_; rw [← hk_]; exact HGE.out)); clear hA9_ hg9_)))
     refine bodyPost_ret (results_list (rs := [.cell 5 66, .tmp 6]) rfl (by simp) (.cell g3 66 _ (0, 0) _ rfl HA9.out Tryd.underlying66 rfl (by kernel_rfl) (.tmp .nil))) rfl ?_
     refine ⟨_, by rw [HCN.out, if_neg HBAD.out]; rfl, ?_, HB9.out⟩
     rw [HCN.out, if_neg HBAD.out]
     exact Kd.R_nil _ _ _ _ _
    ·have cl : decide (x < lo) = false := decide_eq_false hl
     clear hl
     by_cases hg : hi < x
     ·have cg : decide (hi < x) = true := decide_eq_true hg
      have HBAD : Aside0 (¬ allB vs bs bs.length = true) := ⟨fun h_ => by have h2_ := allB_at h_ (show i < bs.length by have := HI.out; omega); rw [HIN.out, cg] at h2_; simp at h2_⟩
      clear hg
      go_wp2_with (first | ((with_reducible refine zu (N := 44) rfl ?_); refine load_pair (ad := ad.add (j.toNat * 2)) (p := lo) (q := hi) rfl rfl (N := 44) rfl rfl HP0.out HP1.out ?_) | ((with_reducible refine zu (N := 10) rfl ?_); refine Go.Proofs.YtfiojiokmkiflaaDoorH.alloc_arr rfl (t := 194) rfl (N := 10) rfl (zs := (Array.replicate 2 (.int .i64 0))) (n := 2) (by kernel_rfl) ?_; intro g10 hg10 w7 hA7 hb7 _; have HA7 := Aside0.mk hA7; have HG10 := Aside0.mk (show w.heap.size ≤ g10 by rw [hg10]; exact HB5.out.size); have HN10 : Aside0 (g10 ≠ g3) := ⟨by have h1_ := zB HA35.out; omega⟩; have HA37 := Aside0.mk ((hb7.block _ (zB HA35.out)).trans HA35.out); have HR7 := Aside0.mk (Kd.R_below HR5.out hb7); have HB7 := Aside0.mk (zm HB5.out hb7); clear hA7 hb7 hg10) | ((with_reducible refine gate_store (t := 194) (p := 10) rfl ?_); (refine Go.Proofs.YtfiojiokmkiflaaDoorH.store_arr (g := g10) (cells := #[.int .i64 lo, .int .i64 hi]) rfl (t := 194) rfl rfl rfl rfl HA7.out (by kernel_rfl) rfl (by kernel_rfl) ?_; intro w8 hA8 hg8; have HA8 := Aside0.mk hA8; have HA38 := Aside0.mk (blk_grown HA37.out hg8 (by intro e_; injection e_ with e_; exact HN10.out e_.symm)); have HR8 := Aside0.mk (Kd.R_mono (Kd.R_grown (Kd.R_types HR7.out HA7.out (by decide)) hg8 (fun k_ hk_ e_ => hk_.2 (by injection e_))) (fun _ _ => trivial)); have HB8 := Aside0.mk (zv HB7.out (some g10) HB7.out.size hg8 (fun k_ hk_ => by injection hk_ with hk_; rw [← hk_]; exact HG10.out)); have hxv : w8.drew.cell? (av.add j.toNat) = some (.int .i64 x) := HXV.out _ HR8.out; clear hA8 hg8)))
      refine start_ (n := 16) (S := fun w' => w'.cell? (av.add j.toNat) = some (.int .i64 x) ∧ w'.cell? ⟨g10, 0, none⟩ = some (.int .i64 lo) ∧ w'.cell? ⟨g10, 1, none⟩ = some (.int .i64 hi)) (ds := []) #[false, false, false, false, false, false, false, false, false, false, false, false, false, false, false, false] (by kernel_rfl) rfl rfl ⟨hxv, (zc (zj HA8.out) 0).trans rfl, (zc (zj HA8.out) 1).trans rfl⟩ (fun hHeld => ?_)
      have HA34 := Aside0.mk (zj HA38.out); have HR4 := Aside0.mk (Kd.R_drew HR8.out); have HB4 := Aside0.mk (below_drew HB8.out); generalize hw4_ : w8.drew = w4 at HA34 HR4 HB4 hHeld ⊢; clear hw4_
      refine pu 0 45 rfl rfl (by kernel_rfl) (fun _ _ _ _ h => h) (by rfl) ⟨_, _, fun w' => by go_simp; rfl, by simp only [pt, ps, p0, p1, zr, zt]; rfl, ?_⟩
      refine pu 1 46 rfl rfl (by kernel_rfl) (fun _ _ _ _ h => h) (by rfl) ⟨_, _, fun w' => by go_simp; rfl, by simp only [pt, ps, p0, p1, zr, zt]; rfl, ?_⟩
      refine pu 2 47 rfl rfl (by kernel_rfl) (fun _ _ _ _ h => h) (by rfl) ⟨_, _, fun w' => by go_simp; rfl, by simp only [pt, ps, p0, p1, zr, zt]; rfl, ?_⟩
      refine pure_ (i := 4) (N := some 49) (v := .pointer (some ⟨g10, 0, none⟩)) (a' := ?_) #[true, true, true, false, true, false, false, false, false, false, false, false, false, false, false, false] rfl rfl (by kernel_rfl) (fun _ _ _ h => h) (Or.inl ⟨by rfl, ?_⟩) ?_ ?_
      ·intro w'
       exact run_pairat (by rfl) (by rfl) (by rfl) (Or.inl rfl)
      rotate_left
      ·simp only [pt, ps, p0, p1, zr, zt]
       rfl
      refine ta 3 48 rfl rfl (by kernel_rfl) (fun _ _ _ _ h => h) (by rfl) hHeld ⟨_, _, by rintro w' ⟨s0, s1, s2⟩; go_simp; rfl, by simp only [pt, ps, p0, p1, zr, zt]; rfl, ?_⟩
      refine ta 5 50 rfl rfl (by kernel_rfl) (fun _ _ _ _ h => h) (by rfl) hHeld ⟨_, _, by rintro w' ⟨s0, s1, s2⟩; go_simp; rfl, by simp only [pt, ps, p0, p1, zr, zt]; rfl, ?_⟩
      refine pu 6 51 rfl rfl (by kernel_rfl) (fun _ _ _ _ h => h) (by rfl) ⟨_, _, fun w' => by go_simp; rfl, by simp only [pt, ps, p0, p1, zr, zt]; rfl, ?_⟩
      refine pu 7 52 rfl rfl (by kernel_rfl) (fun _ _ _ _ h => h) (by rfl) ⟨_, _, fun w' => by go_simp; rfl, by simp only [pt, ps, p0, p1, zr, zt]; rfl, ?_⟩
      refine pu 8 53 rfl rfl (by kernel_rfl) (fun _ _ _ _ h => h) (by rfl) ⟨_, _, fun w' => by go_simp; rfl, by simp only [pt, ps, p0, p1, zr, zt]; rfl, ?_⟩
      refine pu 9 54 rfl rfl (by kernel_rfl) (fun _ _ _ _ h => h) (by rfl) ⟨_, _, fun w' => by go_simp; rfl, by simp only [pt, ps, p0, p1, zr, zt]; rfl, ?_⟩
      refine pu 10 55 rfl rfl (by kernel_rfl) (fun _ _ _ _ h => h) (by rfl) ⟨_, _, fun w' => by go_simp; rfl, by simp only [pt, ps, p0, p1, zr, zt]; rfl, ?_⟩
      refine pure_ (i := 12) (N := some 57) (v := .pointer (some ⟨g10, 1, none⟩)) (a' := ?_) #[true, true, true, true, true, true, true, true, true, true, true, false, true, false, false, false] rfl rfl (by kernel_rfl) (fun _ _ _ h => h) (Or.inl ⟨by rfl, ?_⟩) ?_ ?_
      ·intro w'
       exact run_pairat (by rfl) (by rfl) (by rfl) (Or.inr rfl)
      rotate_left
      ·simp only [pt, ps, p0, p1, zr, zt]
       rfl
      refine ta 11 56 rfl rfl (by kernel_rfl) (fun _ _ _ _ h => h) (by rfl) hHeld ⟨_, _, by rintro w' ⟨s0, s1, s2⟩; go_simp; rfl, by simp only [pt, ps, p0, p1, zr, zt]; rfl, ?_⟩
      refine ta 13 58 rfl rfl (by kernel_rfl) (fun _ _ _ _ h => h) (by rfl) hHeld ⟨_, _, by rintro w' ⟨s0, s1, s2⟩; go_simp; rfl, by simp only [pt, ps, p0, p1, zr, zt]; rfl, ?_⟩
      refine pu 14 59 rfl rfl (by kernel_rfl) (fun _ _ _ _ h => h) (by rfl) ⟨_, _, fun w' => by go_simp; rfl, by simp only [pt, ps, p0, p1, zr, zt]; rfl, ?_⟩
      refine pu 15 60 rfl rfl (by kernel_rfl) (fun _ _ _ _ h => h) (by rfl) ⟨_, _, fun w' => by go_simp; rfl, by simp only [pt, ps, p0, p1, zr, zt]; rfl, ?_⟩
      refine done_ (by kernel_rfl) ?_
      go_wp2_with (first | ((with_reducible refine gate_store (t := 66) (p := 5) rfl ?_); (refine Go.Proofs.YtfiojiokmkiflaaDoorH.store_arr (g := g3) (cells := #[.int .i64 0, .slice none 0 0, .bool false, .string (⟨#[]⟩ : ByteArray), .slice none 0 0]) rfl (t := 66) rfl rfl rfl rfl HA34.out (by kernel_rfl) rfl (by kernel_rfl) ?_; intro w9 hA9_ hg9_; have HA9 := Aside0.mk hA9_; have HG9 := Aside0.mk hg9_; have HB9 := Aside0.mk (zv HB4.out (some g3) HB4.out.size hg9_ (fun k_ hk_ => by injection hk_ with hk_; rw [← hk_]; exact HGE.out)); clear hA9_ hg9_)))
      refine bodyPost_ret (results_list (rs := [.cell 5 66, .tmp 6]) rfl (by simp) (.cell g3 66 _ (0, 0) _ rfl HA9.out Tryd.underlying66 rfl (by kernel_rfl) (.tmp .nil))) rfl ?_
      refine ⟨_, by rw [HCN.out, if_neg HBAD.out]; rfl, ?_, HB9.out⟩
      rw [HCN.out, if_neg HBAD.out]
      exact Kd.R_nil _ _ _ _ _
     ·have cg : decide (hi < x) = false := decide_eq_false hg
      have HOK : Aside0 (allB vs bs (i + 1) = true) := ⟨by simp only [allB, HAB.out, HIN.out, cl, cg]; rfl⟩
      clear hg
      go_wp2_with (first | ((with_reducible refine zu (N := 44) rfl ?_); refine load_pair (ad := ad.add (j.toNat * 2)) (p := lo) (q := hi) rfl rfl (N := 44) rfl rfl HP0.out HP1.out ?_) | ((with_reducible refine zu (N := 10) rfl ?_); refine Go.Proofs.YtfiojiokmkiflaaDoorH.alloc_arr rfl (t := 194) rfl (N := 10) rfl (zs := (Array.replicate 2 (.int .i64 0))) (n := 2) (by kernel_rfl) ?_; intro g10 hg10 w7 hA7 hb7 _; have HA7 := Aside0.mk hA7; have HG10 := Aside0.mk (show w.heap.size ≤ g10 by rw [hg10]; exact HB5.out.size); have HN10 : Aside0 (g10 ≠ g3) := ⟨by have h1_ := zB HA35.out; omega⟩; have HA37 := Aside0.mk ((hb7.block _ (zB HA35.out)).trans HA35.out); have HR7 := Aside0.mk (Kd.R_below HR5.out hb7); have HB7 := Aside0.mk (zm HB5.out hb7); clear hA7 hb7 hg10) | ((with_reducible refine gate_store (t := 194) (p := 10) rfl ?_); (refine Go.Proofs.YtfiojiokmkiflaaDoorH.store_arr (g := g10) (cells := #[.int .i64 lo, .int .i64 hi]) rfl (t := 194) rfl rfl rfl rfl HA7.out (by kernel_rfl) rfl (by kernel_rfl) ?_; intro w8 hA8 hg8; have HA8 := Aside0.mk hA8; have HA38 := Aside0.mk (blk_grown HA37.out hg8 (by intro e_; injection e_ with e_; exact HN10.out e_.symm)); have HR8 := Aside0.mk (Kd.R_mono (Kd.R_grown (Kd.R_types HR7.out HA7.out (by decide)) hg8 (fun k_ hk_ e_ => hk_.2 (by injection e_))) (fun _ _ => trivial)); have HB8 := Aside0.mk (zv HB7.out (some g10) HB7.out.size hg8 (fun k_ hk_ => by injection hk_ with hk_; rw [← hk_]; exact HG10.out)); have hxv : w8.drew.cell? (av.add j.toNat) = some (.int .i64 x) := HXV.out _ HR8.out; clear hA8 hg8)))
      refine start_ (n := 16) (S := fun w' => w'.cell? (av.add j.toNat) = some (.int .i64 x) ∧ w'.cell? ⟨g10, 0, none⟩ = some (.int .i64 lo) ∧ w'.cell? ⟨g10, 1, none⟩ = some (.int .i64 hi)) (ds := []) #[false, false, false, false, false, false, false, false, false, false, false, false, false, false, false, false] (by kernel_rfl) rfl rfl ⟨hxv, (zc (zj HA8.out) 0).trans rfl, (zc (zj HA8.out) 1).trans rfl⟩ (fun hHeld => ?_)
      have HA34 := Aside0.mk (zj HA38.out); have HR4 := Aside0.mk (Kd.R_drew HR8.out); have HB4 := Aside0.mk (below_drew HB8.out); generalize hw4_ : w8.drew = w4 at HA34 HR4 HB4 hHeld ⊢; clear hw4_
      refine pu 0 45 rfl rfl (by kernel_rfl) (fun _ _ _ _ h => h) (by rfl) ⟨_, _, fun w' => by go_simp; rfl, by simp only [pt, ps, p0, p1, zr, zt]; rfl, ?_⟩
      refine pu 1 46 rfl rfl (by kernel_rfl) (fun _ _ _ _ h => h) (by rfl) ⟨_, _, fun w' => by go_simp; rfl, by simp only [pt, ps, p0, p1, zr, zt]; rfl, ?_⟩
      refine pu 2 47 rfl rfl (by kernel_rfl) (fun _ _ _ _ h => h) (by rfl) ⟨_, _, fun w' => by go_simp; rfl, by simp only [pt, ps, p0, p1, zr, zt]; rfl, ?_⟩
      refine pure_ (i := 4) (N := some 49) (v := .pointer (some ⟨g10, 0, none⟩)) (a' := ?_) #[true, true, true, false, true, false, false, false, false, false, false, false, false, false, false, false] rfl rfl (by kernel_rfl) (fun _ _ _ h => h) (Or.inl ⟨by rfl, ?_⟩) ?_ ?_
      ·intro w'
       exact run_pairat (by rfl) (by rfl) (by rfl) (Or.inl rfl)
      rotate_left
      ·simp only [pt, ps, p0, p1, zr, zt]
       rfl
      refine ta 3 48 rfl rfl (by kernel_rfl) (fun _ _ _ _ h => h) (by rfl) hHeld ⟨_, _, by rintro w' ⟨s0, s1, s2⟩; go_simp; rfl, by simp only [pt, ps, p0, p1, zr, zt]; rfl, ?_⟩
      refine ta 5 50 rfl rfl (by kernel_rfl) (fun _ _ _ _ h => h) (by rfl) hHeld ⟨_, _, by rintro w' ⟨s0, s1, s2⟩; go_simp; rfl, by simp only [pt, ps, p0, p1, zr, zt]; rfl, ?_⟩
      refine pu 6 51 rfl rfl (by kernel_rfl) (fun _ _ _ _ h => h) (by rfl) ⟨_, _, fun w' => by go_simp; rfl, by simp only [pt, ps, p0, p1, zr, zt]; rfl, ?_⟩
      refine pu 7 52 rfl rfl (by kernel_rfl) (fun _ _ _ _ h => h) (by rfl) ⟨_, _, fun w' => by go_simp; rfl, by simp only [pt, ps, p0, p1, zr, zt]; rfl, ?_⟩
      refine pu 8 53 rfl rfl (by kernel_rfl) (fun _ _ _ _ h => h) (by rfl) ⟨_, _, fun w' => by go_simp; rfl, by simp only [pt, ps, p0, p1, zr, zt]; rfl, ?_⟩
      refine pu 9 54 rfl rfl (by kernel_rfl) (fun _ _ _ _ h => h) (by rfl) ⟨_, _, fun w' => by go_simp; rfl, by simp only [pt, ps, p0, p1, zr, zt]; rfl, ?_⟩
      refine pu 10 55 rfl rfl (by kernel_rfl) (fun _ _ _ _ h => h) (by rfl) ⟨_, _, fun w' => by go_simp; rfl, by simp only [pt, ps, p0, p1, zr, zt]; rfl, ?_⟩
      refine pure_ (i := 12) (N := some 57) (v := .pointer (some ⟨g10, 1, none⟩)) (a' := ?_) #[true, true, true, true, true, true, true, true, true, true, true, false, true, false, false, false] rfl rfl (by kernel_rfl) (fun _ _ _ h => h) (Or.inl ⟨by rfl, ?_⟩) ?_ ?_
      ·intro w'
       exact run_pairat (by rfl) (by rfl) (by rfl) (Or.inr rfl)
      rotate_left
      ·simp only [pt, ps, p0, p1, zr, zt]
       rfl
      refine ta 11 56 rfl rfl (by kernel_rfl) (fun _ _ _ _ h => h) (by rfl) hHeld ⟨_, _, by rintro w' ⟨s0, s1, s2⟩; go_simp; rfl, by simp only [pt, ps, p0, p1, zr, zt]; rfl, ?_⟩
      refine ta 13 58 rfl rfl (by kernel_rfl) (fun _ _ _ _ h => h) (by rfl) hHeld ⟨_, _, by rintro w' ⟨s0, s1, s2⟩; go_simp; rfl, by simp only [pt, ps, p0, p1, zr, zt]; rfl, ?_⟩
      refine pu 14 59 rfl rfl (by kernel_rfl) (fun _ _ _ _ h => h) (by rfl) ⟨_, _, fun w' => by go_simp; rfl, by simp only [pt, ps, p0, p1, zr, zt]; rfl, ?_⟩
      refine pu 15 60 rfl rfl (by kernel_rfl) (fun _ _ _ _ h => h) (by rfl) ⟨_, _, fun w' => by go_simp; rfl, by simp only [pt, ps, p0, p1, zr, zt]; rfl, ?_⟩
      refine done_ (by kernel_rfl) ?_
      go_wp2
      go_roundg k2
      case measure => omega
      case rel => exact ⟨i + 1, wrap64 (j + 1), rfl, ⟨HJ2.out, by have := HI.out; omega⟩, HOK, HA34, HR4, HB4⟩
def bareF (kind : Int) (_ : Nat) (fs : List ByteArray) : Option (Int × List S124 × Bool × ByteArray × List Int × Bool) := some (kind, [], false, (⟨#[]⟩ : ByteArray), [], ((fs.length : Int) == 1))
def pathF (kind : Int) (_ : Nat) (fs : List ByteArray) : Option (Int × List S124 × Bool × ByteArray × List Int × Bool) := if fs.length = 2 then some (kind, [], false, rdOf ByteArray.empty fs 1, [], true) else some (0, [], false, (⟨#[]⟩ : ByteArray), [], false)
def cntF (kind : Int) (free : Bool) (bs : List (Int × Int)) (k : Nat) (fs : List ByteArray) : Option (Int × List S124 × Bool × ByteArray × List Int × Bool) := (impl_numbers.f k (fs.drop 1)).bind fun p => some ((cnt kind free bs p.1 p.2).1, [], false, (⟨#[]⟩ : ByteArray), (cnt kind free bs p.1 p.2).2.1, (cnt kind free bs p.1 p.2).2.2)
def PK (W : World) (v : Value) (f : Nat → List ByteArray → Option (Int × List S124 × Bool × ByteArray × List Int × Bool)) : Prop := ∃ g bound, v = .func (.func g) #[] bound ∧ (∀ args w, (callFunc g args).run Tryd.prog w = .ok (.enter g args) w) ∧ ∀ k fs A c r1 r2 r3 r4 r5 r6 (w : World), YtfiojiokmkiflaaDoorH.CK W w → Kd.C Kd.string w A fs.length fs → fs.length ≤ c → 1 ≤ fs.length → f k fs = some (r1, r2, r3, r4, r5, r6) → Calls Tryd.prog g (#[.slice A fs.length c] ++ bound) w fun e w' => ∃ v1 v4 : Value, e = .returned (.tuple #[.agg #[.int .i64 r1, v1, .bool r3, .string r4, v4], .bool r6]) ∧ Kd.R k124 124 w' w.heap.size (fun _ => True) v1 r2 ∧ Kd.R (Kd.int .i64) 2 w' w.heap.size (fun _ => True) v4 r5 ∧ Below w.heap.size w w'
theorem PK.ck {W W2 : World} {v : Value} {f : Nat → List ByteArray → Option (Int × List S124 × Bool × ByteArray × List Int × Bool)} (h : PK W v f) (hc : YtfiojiokmkiflaaDoorH.CK W W2) : PK W2 v f := by
 obtain ⟨g, b, h1, h2, h3⟩ := h
 exact ⟨g, b, h1, h2, fun k fs A c r1 r2 r3 r4 r5 r6 w hw => h3 k fs A c r1 r2 r3 r4 r5 r6 w (hc.trans hw)⟩
def MP (W : World) (m : List (ByteArray × Value)) (F : List (ByteArray × (Nat → List ByteArray → Option (Int × List S124 × Bool × ByteArray × List Int × Bool)))) : Prop := ∀ key, (∃ v f, YtfiojiokmkiflaaDoorH.aget m key = some v ∧ YtfiojiokmkiflaaDoorH.aget F key = some f ∧ PK W v f) ∨ (YtfiojiokmkiflaaDoorH.aget m key = none ∧ YtfiojiokmkiflaaDoorH.aget F key = none)
theorem MP.nil (W : World) : MP W [] [] := fun key => .inr ⟨rfl, rfl⟩
theorem MP.ck {W W2 : World} {m : List (ByteArray × Value)} {F : List (ByteArray × (Nat → List ByteArray → Option (Int × List S124 × Bool × ByteArray × List Int × Bool)))} (h : MP W m F) (hc : YtfiojiokmkiflaaDoorH.CK W W2) : MP W2 m F := fun key => by
 rcases h key with ⟨v, f, h1, h2, h3⟩ | h1
 ·exact .inl ⟨v, f, h1, h2, h3.ck hc⟩
 ·exact .inr h1
theorem MP.set {W W2 : World} {m : List (ByteArray × Value)} {F : List (ByteArray × (Nat → List ByteArray → Option (Int × List S124 × Bool × ByteArray × List Int × Bool)))} {k : ByteArray} {v : Value} {gm : Nat} {f : Nat → List ByteArray → Option (Int × List S124 × Bool × ByteArray × List Int × Bool)} (_hm : YtfiojiokmkiflaaDoorH.MapS id W2 gm (YtfiojiokmkiflaaDoorH.aset m k v)) (h : MP W m F) (hp : PK W v f) (hc : YtfiojiokmkiflaaDoorH.CK W W2) : MP W2 (YtfiojiokmkiflaaDoorH.aset m k v) (YtfiojiokmkiflaaDoorH.aset F k f) := fun key => by
 rw [YtfiojiokmkiflaaDoorH.aget_aset, YtfiojiokmkiflaaDoorH.aget_aset]
 by_cases c : k = key
 ·rw [if_pos c, if_pos c]; exact .inl ⟨v, f, rfl, rfl, hp.ck hc⟩
 ·rw [if_neg c, if_neg c]; exact MP.ck h hc key
theorem pk_single (W : World) : PK W (.func (.func 115) #[] #[]) impl_single.f := ⟨_, _, rfl, enters_of Tryd.func115 (by kernel_rfl) rfl, fun k fs A c r1 r2 r3 r4 r5 r6 w _ hr hc _ h => impl_single.calls k A c fs r1 r2 r3 r4 r5 r6 w hr hc h⟩
theorem pk_multi (W : World) : PK W (.func (.func 116) #[] #[]) impl_multi.f := ⟨_, _, rfl, enters_of Tryd.func116 (by kernel_rfl) rfl, fun k fs A c r1 r2 r3 r4 r5 r6 w _ hr hc _ h => impl_multi.calls k A c fs r1 r2 r3 r4 r5 r6 w hr hc h⟩
theorem pk_bare {W : World} {g : Nat} {kind : Int} (hk : W.cell? ⟨g, 0, none⟩ = some (.int .i64 kind)) : PK W (.func (.func 140) #[] #[.pointer (some ⟨g, 0, none⟩)]) (bareF kind) := ⟨_, _, rfl, enters_of Tryd.func140 (by kernel_rfl) rfl, fun k fs A c r1 r2 r3 r4 r5 r6 w hw hr hc _ h => by
 simp only [bareF, Option.some.injEq, Prod.mk.injEq] at h
 obtain ⟨rfl, rfl, rfl, rfl, rfl, rfl⟩ := h
 refine (bare1_c w g kind A c fs (hw _ _ hk)).mono ?_
 rintro e w' ⟨rfl, hb⟩
 exact ⟨_, _, rfl, Kd.R_nil _ _ _ _ _, Kd.R_nil _ _ _ _ _, hb⟩⟩
theorem pk_path {W : World} {g : Nat} {kind : Int} (hk : W.cell? ⟨g, 0, none⟩ = some (.int .i64 kind)) : PK W (.func (.func 141) #[] #[.pointer (some ⟨g, 0, none⟩)]) (pathF kind) := ⟨_, _, rfl, enters_of Tryd.func141 (by kernel_rfl) rfl, fun k fs A c r1 r2 r3 r4 r5 r6 w hw hr hc _ h => by
 refine (pathed1_c w g kind A c fs (hw _ _ hk) hr).mono ?_
 rintro e w' ⟨rfl, hb⟩
 unfold pathF at h
 split at h
 ·next h2 =>
  simp only [Option.some.injEq, Prod.mk.injEq] at h
  obtain ⟨rfl, rfl, rfl, rfl, rfl, rfl⟩ := h
  rw [if_pos h2]
  exact ⟨_, _, rfl, Kd.R_nil _ _ _ _ _, Kd.R_nil _ _ _ _ _, hb⟩
 ·next h2 =>
  simp only [Option.some.injEq, Prod.mk.injEq] at h
  obtain ⟨rfl, rfl, rfl, rfl, rfl, rfl⟩ := h
  rw [if_neg h2]
  exact ⟨_, _, rfl, Kd.R_nil _ _ _ _ _, Kd.R_nil _ _ _ _ _, hb⟩⟩
def BN (W : World) (AB : Option Addr) (bs : List (Int × Int)) : Prop := ∀ i, i < bs.length → ∃ ad, AB = some ad ∧ W.cell? ((ad.add (i * 2)).add 0) = some (.int .i64 (bs.getD i (0, 0)).1) ∧ W.cell? ((ad.add (i * 2)).add 1) = some (.int .i64 (bs.getD i (0, 0)).2)
theorem BN.ck {W W2 : World} {AB : Option Addr} {bs : List (Int × Int)} (h : BN W AB bs) (hc : YtfiojiokmkiflaaDoorH.CK W W2) : BN W2 AB bs := fun i hi => by
 obtain ⟨ad, h1, h2, h3⟩ := h i hi
 exact ⟨ad, h1, hc _ _ h2, hc _ _ h3⟩
theorem bnd0 {W : World} : BN W none [] := fun i hi => absurd hi (Nat.not_lt_zero _)
theorem bnd1 {W : World} {g T : Nat} {a b : Int} (h : W.heap[g]? = some (.cells #[.int .i64 a, .int .i64 b] T (0, 0))) : BN W (some ⟨g, 0, none⟩) [(a, b)] := fun i hi => by
 have : i = 0 := by simp at hi; omega
 subst this
 exact ⟨_, rfl, (zc h 0).trans rfl, (zc h 1).trans rfl⟩
theorem bnd3 {W : World} {g T : Nat} {a b c d e f : Int} (h : W.heap[g]? = some (.cells #[.int .i64 a, .int .i64 b, .int .i64 c, .int .i64 d, .int .i64 e, .int .i64 f] T (0, 0))) : BN W (some ⟨g, 0, none⟩) [(a, b), (c, d), (e, f)] := fun i hi => by
 match i, hi with
 | 0, _ => exact ⟨_, rfl, (zc h 0).trans rfl, (zc h 1).trans rfl⟩
 | 1, _ => exact ⟨_, rfl, (zc h 2).trans rfl, (zc h 3).trans rfl⟩
 | 2, _ => exact ⟨_, rfl, (zc h 4).trans rfl, (zc h 5).trans rfl⟩
 | i + 3, hi => exact absurd (show i + 3 < 3 from hi) (by omega)
theorem pk_count {W : World} {gk gF gB : Nat} {kind : Int} {free : Bool} {bs : List (Int × Int)} {AB : Option Addr} {cB : Nat} (hk : W.cell? ⟨gk, 0, none⟩ = some (.int .i64 kind)) (hkf : W.cell? ⟨gF, 0, none⟩ = some (.bool free)) (hkb : W.cell? ⟨gB, 0, none⟩ = some (.slice AB bs.length cB)) (hbs : BN W AB bs) (hbl : bs.length ≤ 1000) :
  PK W (.func (.func 142) #[] #[.pointer (some ⟨gB, 0, none⟩), .pointer (some ⟨gF, 0, none⟩), .pointer (some ⟨gk, 0, none⟩)]) (cntF kind free bs) := ⟨_, _, rfl, enters_of Tryd.func142 (by kernel_rfl) rfl, fun k fs A c r1 r2 r3 r4 r5 r6 w hw hr hc h1 h => by
 obtain ⟨⟨vs, ok⟩, hn, h⟩ := Option.bind_eq_some_iff.mp h
 simp only [Option.some.injEq, Prod.mk.injEq] at h
 obtain ⟨rfl, rfl, rfl, rfl, rfl, rfl⟩ := h
 by_cases hC : ok = true ∧ bs.length ≤ vs.length ∧ (free = true ∨ vs.length ≤ bs.length)
 ·refine (counted1_ok k w gk gF gB kind free bs AB cB A c fs vs ok (hw _ _ hk) (hw _ _ hkf) (hw _ _ hkb) (BN.ck hbs hw) hbl hr hc h1 hn hC).mono ?_
  rintro e w' ⟨v, rfl, hv, hb⟩
  exact ⟨_, v, rfl, Kd.R_nil _ _ _ _ _, hv, hb⟩
 ·refine (counted1_bad k w gk gF gB kind free bs AB cB A c fs vs ok (hw _ _ hk) (hw _ _ hkf) (hw _ _ hkb) (BN.ck hbs hw) hbl hr hc h1 hn hC).mono ?_
  rintro e w' ⟨v, rfl, hv, hb⟩
  have e_ : cnt kind free bs vs ok = (0, [], false) := by unfold cnt; rw [if_neg hC]
  rw [e_]
  exact ⟨_, v, rfl, Kd.R_nil _ _ _ _ _, hv, hb⟩⟩
theorem counted_c (w : World) (kind : Int) (free : Bool) (bs : List (Int × Int)) (AB : Option Addr) (cB : Nat) (hbs : BN w AB bs) (hbl : bs.length ≤ 1000) : Calls Tryd.prog 119 #[.int .i64 kind, .bool free, .slice AB bs.length cB] w fun e w' => ∃ gB gF gk, e = .returned (.func (.func 142) #[] #[.pointer (some ⟨gB, 0, none⟩), .pointer (some ⟨gF, 0, none⟩), .pointer (some ⟨gk, 0, none⟩)]) ∧ PK w' (.func (.func 142) #[] #[.pointer (some ⟨gB, 0, none⟩), .pointer (some ⟨gF, 0, none⟩), .pointer (some ⟨gk, 0, none⟩)]) (cntF kind free bs) ∧ Below w.heap.size w w' := by
 have hmf : ∀ (fn : Fn) (first cap : Array Value) (w : World), (Instr.makeFunc fn first cap).run Tryd.prog w = .ok (.func fn first cap) w := fun _ _ _ _ => rfl
 go_enter Tryd.func119, Tryd.ntmps119
 go_wp2
 go_ret
 have b1 := blk_new w (.cells #[.int .i64 kind] 2)
 have b2 := blk_new (w.alloc (.cells #[.int .i64 kind] 2)) (.cells #[.bool free] 4)
 have b3 := blk_new ((w.alloc (.cells #[.int .i64 kind] 2)).alloc (.cells #[.bool free] 4)) (.cells #[.slice AB bs.length cB] 215)
 simp only [World.size_alloc] at b2 b3
 have hb : Below w.heap.size w (((w.alloc (.cells #[.int .i64 kind] 2)).alloc (.cells #[.bool free] 4)).alloc (.cells #[.slice AB bs.length cB] 215)) := zh (zh (zh (Below.refl _ _) _) _) _
 exact ⟨_, _, _, rfl, pk_count ((zc (ze (ze b1 _) _) 0).trans rfl) ((zc (ze b2 _) 0).trans rfl) ((zc b3 0).trans rfl) (BN.ck hbs (YtfiojiokmkiflaaDoorH.CK.below hb)) hbl, hb⟩
def prsL : List (ByteArray × (Nat → List ByteArray → Option (Int × List S124 × Bool × ByteArray × List Int × Bool))) := YtfiojiokmkiflaaDoorH.aset (YtfiojiokmkiflaaDoorH.aset (YtfiojiokmkiflaaDoorH.aset (YtfiojiokmkiflaaDoorH.aset (YtfiojiokmkiflaaDoorH.aset (YtfiojiokmkiflaaDoorH.aset (YtfiojiokmkiflaaDoorH.aset (YtfiojiokmkiflaaDoorH.aset (YtfiojiokmkiflaaDoorH.aset (YtfiojiokmkiflaaDoorH.aset (YtfiojiokmkiflaaDoorH.aset (YtfiojiokmkiflaaDoorH.aset (YtfiojiokmkiflaaDoorH.aset (YtfiojiokmkiflaaDoorH.aset (YtfiojiokmkiflaaDoorH.aset (YtfiojiokmkiflaaDoorH.aset (YtfiojiokmkiflaaDoorH.aset [] (⟨#[99, 114, 101, 97, 116, 101]⟩ : ByteArray) impl_single.f) (⟨#[115, 101, 113]⟩ : ByteArray) impl_single.f) (⟨#[100, 101, 108, 101, 116, 101]⟩ : ByteArray) impl_single.f) (⟨#[115, 101, 116]⟩ : ByteArray) impl_single.f) (⟨#[99, 104, 101, 99, 107]⟩ : ByteArray) impl_single.f) (⟨#[109, 117, 108, 116, 105]⟩ : ByteArray) impl_multi.f) (⟨#[102, 108, 117, 115, 104]⟩ : ByteArray) (bareF 2)) (⟨#[103, 101, 116]⟩ : ByteArray) (pathF 3)) (⟨#[108, 105, 115, 116]⟩ : ByteArray) (pathF 4)) (⟨#[100, 117, 109, 112]⟩ : ByteArray) (bareF 5)) (⟨#[115, 110, 97, 112]⟩ : ByteArray) (bareF 6)) (⟨#[115, 116, 101, 112]⟩ : ByteArray) (cntF 7 false [(1, 1000)])) (⟨#[97, 114, 109]⟩ : ByteArray) (cntF 8 true [(1, 10000)])) (⟨#[99, 114, 97, 115, 104]⟩ : ByteArray) (cntF 9 true [])) (⟨#[114, 111, 116]⟩ : ByteArray) (cntF 10 false [(0, 1), (0, 4095), (1, 255)])) (⟨#[114, 101, 99, 111, 118, 101, 114]⟩ : ByteArray) (bareF 11)) (⟨#[115, 116, 97, 116, 117, 115]⟩ : ByteArray) (bareF 12)
set_option maxHeartbeats 4000000 in
set_option maxRecDepth 100000 in
theorem parsers_c (w : World) : Calls Tryd.prog 78 #[] w fun e w' => ∃ gm m, e = .returned (.map (some gm)) ∧ YtfiojiokmkiflaaDoorH.MapS id w' gm m ∧ MP w' m prsL ∧ Below w.heap.size w w' := by
 have hps := pk_single
 have hpm := pk_multi
 go_enter Tryd.func78, Tryd.ntmps78
 go_wp2_with (first | ((with_reducible refine zu (N := 1) rfl ?_); refine Go.Proofs.YtfiojiokmkiflaaDoorH.mk_step rfl rfl (N := 1) rfl Tryd.underlying133 ?_; have HM : Aside0 (YtfiojiokmkiflaaDoorH.MapS id (w.alloc (.map #[] 0)) w.heap.size ([] : List (ByteArray × Value))) := ⟨YtfiojiokmkiflaaDoorH.MapS.made w⟩; have HMP : Aside0 (MP (w.alloc (.map #[] 0)) ([] : List (ByteArray × Value)) []) := ⟨MP.nil _⟩; have HB := Aside0.mk (zh (Below.refl w.heap.size w) (.map #[] 0)); generalize hw0_ : w.alloc (.map #[] 0) = w0 at HM HMP HB ⊢; generalize hgm_ : w.heap.size = gm at HM ⊢; have HGM := Aside0.mk (show w.heap.size ≤ gm by omega); clear hw0_ hgm_) | (refine Go.Proofs.YtfiojiokmkiflaaDoorH.ins_step (ve := id) (⟨#[99, 114, 101, 97, 116, 101]⟩ : ByteArray) (.func (.func 115) #[] #[]) rfl rfl rfl rfl rfl rfl Tryd.underlying9 Tryd.underlying133 HM.out ?_; intro wn_ hm_ hg_; have n0_ := Aside0.mk (MP.set hm_ HMP.out (hps _) (YtfiojiokmkiflaaDoorH.CK.map HM.out hg_)); have n1_ := Aside0.mk (zv HB.out (some gm) HB.out.size hg_ (fun k_ hk_ => by injection hk_ with hk_; rw [← hk_]; exact HGM.out)); have n2_ := Aside0.mk hm_; clear HM HMP HB; have HM := n2_; have HMP := n0_; have HB := n1_; clear n0_ n1_ n2_ hm_ hg_; (try clear HPK)) | (refine Go.Proofs.YtfiojiokmkiflaaDoorH.ins_step (ve := id) (⟨#[115, 101, 113]⟩ : ByteArray) (.func (.func 115) #[] #[]) rfl rfl rfl rfl rfl rfl Tryd.underlying9 Tryd.underlying133 HM.out ?_; intro wn_ hm_ hg_; have n0_ := Aside0.mk (MP.set hm_ HMP.out (hps _) (YtfiojiokmkiflaaDoorH.CK.map HM.out hg_)); have n1_ := Aside0.mk (zv HB.out (some gm) HB.out.size hg_ (fun k_ hk_ => by injection hk_ with hk_; rw [← hk_]; exact HGM.out)); have n2_ := Aside0.mk hm_; clear HM HMP HB; have HM := n2_; have HMP := n0_; have HB := n1_; clear n0_ n1_ n2_ hm_ hg_; (try clear HPK)) | (refine Go.Proofs.YtfiojiokmkiflaaDoorH.ins_step (ve := id) (⟨#[100, 101, 108, 101, 116, 101]⟩ : ByteArray) (.func (.func 115) #[] #[]) rfl rfl rfl rfl rfl rfl Tryd.underlying9 Tryd.underlying133 HM.out ?_; intro wn_ hm_ hg_; have n0_ := Aside0.mk (MP.set hm_ HMP.out (hps _) (YtfiojiokmkiflaaDoorH.CK.map HM.out hg_)); have n1_ := Aside0.mk (zv HB.out (some gm) HB.out.size hg_ (fun k_ hk_ => by injection hk_ with hk_; rw [← hk_]; exact HGM.out)); have n2_ := Aside0.mk hm_; clear HM HMP HB; have HM := n2_; have HMP := n0_; have HB := n1_; clear n0_ n1_ n2_ hm_ hg_; (try clear HPK)) | (refine Go.Proofs.YtfiojiokmkiflaaDoorH.ins_step (ve := id) (⟨#[115, 101, 116]⟩ : ByteArray) (.func (.func 115) #[] #[]) rfl rfl rfl rfl rfl rfl Tryd.underlying9 Tryd.underlying133 HM.out ?_; intro wn_ hm_ hg_; have n0_ := Aside0.mk (MP.set hm_ HMP.out (hps _) (YtfiojiokmkiflaaDoorH.CK.map HM.out hg_)); have n1_ := Aside0.mk (zv HB.out (some gm) HB.out.size hg_ (fun k_ hk_ => by injection hk_ with hk_; rw [← hk_]; exact HGM.out)); have n2_ := Aside0.mk hm_; clear HM HMP HB; have HM := n2_; have HMP := n0_; have HB := n1_; clear n0_ n1_ n2_ hm_ hg_; (try clear HPK)) | (refine Go.Proofs.YtfiojiokmkiflaaDoorH.ins_step (ve := id) (⟨#[99, 104, 101, 99, 107]⟩ : ByteArray) (.func (.func 115) #[] #[]) rfl rfl rfl rfl rfl rfl Tryd.underlying9 Tryd.underlying133 HM.out ?_; intro wn_ hm_ hg_; have n0_ := Aside0.mk (MP.set hm_ HMP.out (hps _) (YtfiojiokmkiflaaDoorH.CK.map HM.out hg_)); have n1_ := Aside0.mk (zv HB.out (some gm) HB.out.size hg_ (fun k_ hk_ => by injection hk_ with hk_; rw [← hk_]; exact HGM.out)); have n2_ := Aside0.mk hm_; clear HM HMP HB; have HM := n2_; have HMP := n0_; have HB := n1_; clear n0_ n1_ n2_ hm_ hg_; (try clear HPK)) | (refine Go.Proofs.YtfiojiokmkiflaaDoorH.ins_step (ve := id) (⟨#[109, 117, 108, 116, 105]⟩ : ByteArray) (.func (.func 116) #[] #[]) rfl rfl rfl rfl rfl rfl Tryd.underlying9 Tryd.underlying133 HM.out ?_; intro wn_ hm_ hg_; have n0_ := Aside0.mk (MP.set hm_ HMP.out (hpm _) (YtfiojiokmkiflaaDoorH.CK.map HM.out hg_)); have n1_ := Aside0.mk (zv HB.out (some gm) HB.out.size hg_ (fun k_ hk_ => by injection hk_ with hk_; rw [← hk_]; exact HGM.out)); have n2_ := Aside0.mk hm_; clear HM HMP HB; have HM := n2_; have HMP := n0_; have HB := n1_; clear n0_ n1_ n2_ hm_ hg_; (try clear HPK)) | (refine Go.Proofs.YtfiojiokmkiflaaDoorH.ins_step (ve := id) (⟨#[102, 108, 117, 115, 104]⟩ : ByteArray) (.func (.func 140) #[] #[.pointer (some ⟨g_, 0, none⟩)]) rfl rfl rfl rfl rfl rfl Tryd.underlying9 Tryd.underlying133 HM.out ?_; intro wn_ hm_ hg_; have n0_ := Aside0.mk (MP.set hm_ HMP.out (HPK.out) (YtfiojiokmkiflaaDoorH.CK.map HM.out hg_)); have n1_ := Aside0.mk (zv HB.out (some gm) HB.out.size hg_ (fun k_ hk_ => by injection hk_ with hk_; rw [← hk_]; exact HGM.out)); have n2_ := Aside0.mk hm_; clear HM HMP HB; have HM := n2_; have HMP := n0_; have HB := n1_; clear n0_ n1_ n2_ hm_ hg_; (try clear HPK)) | (refine Go.Proofs.YtfiojiokmkiflaaDoorH.ins_step (ve := id) (⟨#[103, 101, 116]⟩ : ByteArray) (.func (.func 141) #[] #[.pointer (some ⟨g_, 0, none⟩)]) rfl rfl rfl rfl rfl rfl Tryd.underlying9 Tryd.underlying133 HM.out ?_; intro wn_ hm_ hg_; have n0_ := Aside0.mk (MP.set hm_ HMP.out (HPK.out) (YtfiojiokmkiflaaDoorH.CK.map HM.out hg_)); have n1_ := Aside0.mk (zv HB.out (some gm) HB.out.size hg_ (fun k_ hk_ => by injection hk_ with hk_; rw [← hk_]; exact HGM.out)); have n2_ := Aside0.mk hm_; clear HM HMP HB; have HM := n2_; have HMP := n0_; have HB := n1_; clear n0_ n1_ n2_ hm_ hg_; (try clear HPK)) | (refine Go.Proofs.YtfiojiokmkiflaaDoorH.ins_step (ve := id) (⟨#[108, 105, 115, 116]⟩ : ByteArray) (.func (.func 141) #[] #[.pointer (some ⟨g_, 0, none⟩)]) rfl rfl rfl rfl rfl rfl Tryd.underlying9 Tryd.underlying133 HM.out ?_; intro wn_ hm_ hg_; have n0_ := Aside0.mk (MP.set hm_ HMP.out (HPK.out) (YtfiojiokmkiflaaDoorH.CK.map HM.out hg_)); have n1_ := Aside0.mk (zv HB.out (some gm) HB.out.size hg_ (fun k_ hk_ => by injection hk_ with hk_; rw [← hk_]; exact HGM.out)); have n2_ := Aside0.mk hm_; clear HM HMP HB; have HM := n2_; have HMP := n0_; have HB := n1_; clear n0_ n1_ n2_ hm_ hg_; (try clear HPK)) | (refine Go.Proofs.YtfiojiokmkiflaaDoorH.ins_step (ve := id) (⟨#[100, 117, 109, 112]⟩ : ByteArray) (.func (.func 140) #[] #[.pointer (some ⟨g_, 0, none⟩)]) rfl rfl rfl rfl rfl rfl Tryd.underlying9 Tryd.underlying133 HM.out ?_; intro wn_ hm_ hg_; have n0_ := Aside0.mk (MP.set hm_ HMP.out (HPK.out) (YtfiojiokmkiflaaDoorH.CK.map HM.out hg_)); have n1_ := Aside0.mk (zv HB.out (some gm) HB.out.size hg_ (fun k_ hk_ => by injection hk_ with hk_; rw [← hk_]; exact HGM.out)); have n2_ := Aside0.mk hm_; clear HM HMP HB; have HM := n2_; have HMP := n0_; have HB := n1_; clear n0_ n1_ n2_ hm_ hg_; (try clear HPK)) | (refine Go.Proofs.YtfiojiokmkiflaaDoorH.ins_step (ve := id) (⟨#[115, 110, 97, 112]⟩ : ByteArray) (.func (.func 140) #[] #[.pointer (some ⟨g_, 0, none⟩)]) rfl rfl rfl rfl rfl rfl Tryd.underlying9 Tryd.underlying133 HM.out ?_; intro wn_ hm_ hg_; have n0_ := Aside0.mk (MP.set hm_ HMP.out (HPK.out) (YtfiojiokmkiflaaDoorH.CK.map HM.out hg_)); have n1_ := Aside0.mk (zv HB.out (some gm) HB.out.size hg_ (fun k_ hk_ => by injection hk_ with hk_; rw [← hk_]; exact HGM.out)); have n2_ := Aside0.mk hm_; clear HM HMP HB; have HM := n2_; have HMP := n0_; have HB := n1_; clear n0_ n1_ n2_ hm_ hg_; (try clear HPK)) | (refine Go.Proofs.YtfiojiokmkiflaaDoorH.ins_step (ve := id) (⟨#[115, 116, 101, 112]⟩ : ByteArray) (.func (.func 142) #[] #[.pointer (some ⟨gb_, 0, none⟩), .pointer (some ⟨gf_, 0, none⟩), .pointer (some ⟨gk_, 0, none⟩)]) rfl rfl rfl rfl rfl rfl Tryd.underlying9 Tryd.underlying133 HM.out ?_; intro wn_ hm_ hg_; have n0_ := Aside0.mk (MP.set hm_ HMP.out (HPK.out) (YtfiojiokmkiflaaDoorH.CK.map HM.out hg_)); have n1_ := Aside0.mk (zv HB.out (some gm) HB.out.size hg_ (fun k_ hk_ => by injection hk_ with hk_; rw [← hk_]; exact HGM.out)); have n2_ := Aside0.mk hm_; clear HM HMP HB; have HM := n2_; have HMP := n0_; have HB := n1_; clear n0_ n1_ n2_ hm_ hg_; (try clear HPK)) | (refine Go.Proofs.YtfiojiokmkiflaaDoorH.ins_step (ve := id) (⟨#[97, 114, 109]⟩ : ByteArray) (.func (.func 142) #[] #[.pointer (some ⟨gb_, 0, none⟩), .pointer (some ⟨gf_, 0, none⟩), .pointer (some ⟨gk_, 0, none⟩)]) rfl rfl rfl rfl rfl rfl Tryd.underlying9 Tryd.underlying133 HM.out ?_; intro wn_ hm_ hg_; have n0_ := Aside0.mk (MP.set hm_ HMP.out (HPK.out) (YtfiojiokmkiflaaDoorH.CK.map HM.out hg_)); have n1_ := Aside0.mk (zv HB.out (some gm) HB.out.size hg_ (fun k_ hk_ => by injection hk_ with hk_; rw [← hk_]; exact HGM.out)); have n2_ := Aside0.mk hm_; clear HM HMP HB; have HM := n2_; have HMP := n0_; have HB := n1_; clear n0_ n1_ n2_ hm_ hg_; (try clear HPK)) | (refine Go.Proofs.YtfiojiokmkiflaaDoorH.ins_step (ve := id) (⟨#[99, 114, 97, 115, 104]⟩ : ByteArray) (.func (.func 142) #[] #[.pointer (some ⟨gb_, 0, none⟩), .pointer (some ⟨gf_, 0, none⟩), .pointer (some ⟨gk_, 0, none⟩)]) rfl rfl rfl rfl rfl rfl Tryd.underlying9 Tryd.underlying133 HM.out ?_; intro wn_ hm_ hg_; have n0_ := Aside0.mk (MP.set hm_ HMP.out (HPK.out) (YtfiojiokmkiflaaDoorH.CK.map HM.out hg_)); have n1_ := Aside0.mk (zv HB.out (some gm) HB.out.size hg_ (fun k_ hk_ => by injection hk_ with hk_; rw [← hk_]; exact HGM.out)); have n2_ := Aside0.mk hm_; clear HM HMP HB; have HM := n2_; have HMP := n0_; have HB := n1_; clear n0_ n1_ n2_ hm_ hg_; (try clear HPK)) | (refine Go.Proofs.YtfiojiokmkiflaaDoorH.ins_step (ve := id) (⟨#[114, 111, 116]⟩ : ByteArray) (.func (.func 142) #[] #[.pointer (some ⟨gb_, 0, none⟩), .pointer (some ⟨gf_, 0, none⟩), .pointer (some ⟨gk_, 0, none⟩)]) rfl rfl rfl rfl rfl rfl Tryd.underlying9 Tryd.underlying133 HM.out ?_; intro wn_ hm_ hg_; have n0_ := Aside0.mk (MP.set hm_ HMP.out (HPK.out) (YtfiojiokmkiflaaDoorH.CK.map HM.out hg_)); have n1_ := Aside0.mk (zv HB.out (some gm) HB.out.size hg_ (fun k_ hk_ => by injection hk_ with hk_; rw [← hk_]; exact HGM.out)); have n2_ := Aside0.mk hm_; clear HM HMP HB; have HM := n2_; have HMP := n0_; have HB := n1_; clear n0_ n1_ n2_ hm_ hg_; (try clear HPK)) | (refine Go.Proofs.YtfiojiokmkiflaaDoorH.ins_step (ve := id) (⟨#[114, 101, 99, 111, 118, 101, 114]⟩ : ByteArray) (.func (.func 140) #[] #[.pointer (some ⟨g_, 0, none⟩)]) rfl rfl rfl rfl rfl rfl Tryd.underlying9 Tryd.underlying133 HM.out ?_; intro wn_ hm_ hg_; have n0_ := Aside0.mk (MP.set hm_ HMP.out (HPK.out) (YtfiojiokmkiflaaDoorH.CK.map HM.out hg_)); have n1_ := Aside0.mk (zv HB.out (some gm) HB.out.size hg_ (fun k_ hk_ => by injection hk_ with hk_; rw [← hk_]; exact HGM.out)); have n2_ := Aside0.mk hm_; clear HM HMP HB; have HM := n2_; have HMP := n0_; have HB := n1_; clear n0_ n1_ n2_ hm_ hg_; (try clear HPK)) | (refine Go.Proofs.YtfiojiokmkiflaaDoorH.ins_step (ve := id) (⟨#[115, 116, 97, 116, 117, 115]⟩ : ByteArray) (.func (.func 140) #[] #[.pointer (some ⟨g_, 0, none⟩)]) rfl rfl rfl rfl rfl rfl Tryd.underlying9 Tryd.underlying133 HM.out ?_; intro wn_ hm_ hg_; have n0_ := Aside0.mk (MP.set hm_ HMP.out (HPK.out) (YtfiojiokmkiflaaDoorH.CK.map HM.out hg_)); have n1_ := Aside0.mk (zv HB.out (some gm) HB.out.size hg_ (fun k_ hk_ => by injection hk_ with hk_; rw [← hk_]; exact HGM.out)); have n2_ := Aside0.mk hm_; clear HM HMP HB; have HM := n2_; have HMP := n0_; have HB := n1_; clear n0_ n1_ n2_ hm_ hg_; (try clear HPK)) | ((with_reducible refine zo (f := 117) rfl ?_); refine zy _ rfl rfl Tryd.func117 (by kernel_rfl) rfl _ rfl (by (try simp only [List.map_toArray, List.map_cons, List.map_nil]); first | done | rfl) ?_; refine (bare_c _ _).mono ?_; rintro e wn_ ⟨g_, rfl, hge_, hck_, hb⟩; refine ⟨_, rfl, ?_⟩; have HPK := Aside0.mk (pk_bare hck_); have n0_ := Aside0.mk (HM.out.move (hb.block _ HM.out.lt)); have n1_ := Aside0.mk (MP.ck HMP.out (YtfiojiokmkiflaaDoorH.CK.below hb)); have n2_ := Aside0.mk (zm HB.out hb); clear HM HMP HB; have HM := n0_; have HMP := n1_; have HB := n2_; clear n0_ n1_ n2_ hb; clear hge_ hck_) | ((with_reducible refine zo (f := 118) rfl ?_); refine zy _ rfl rfl Tryd.func118 (by kernel_rfl) rfl _ rfl (by (try simp only [List.map_toArray, List.map_cons, List.map_nil]); first | done | rfl) ?_; refine (pathed_c _ _).mono ?_; rintro e wn_ ⟨g_, rfl, hge_, hck_, hb⟩; refine ⟨_, rfl, ?_⟩; have HPK := Aside0.mk (pk_path hck_); have n0_ := Aside0.mk (HM.out.move (hb.block _ HM.out.lt)); have n1_ := Aside0.mk (MP.ck HMP.out (YtfiojiokmkiflaaDoorH.CK.below hb)); have n2_ := Aside0.mk (zm HB.out hb); clear HM HMP HB; have HM := n0_; have HMP := n1_; have HB := n2_; clear n0_ n1_ n2_ hb; clear hge_ hck_) | ((with_reducible refine zu (N := 9) rfl ?_); (with_reducible refine zo (f := 119) rfl ?_); have ob_ := blk_new wn_ (.cells #[.int .i64 1, .int .i64 1000] 194); have n0_ := Aside0.mk (HM.out.alloc (.cells #[.int .i64 1, .int .i64 1000] 194)); have n1_ := Aside0.mk (MP.ck HMP.out (YtfiojiokmkiflaaDoorH.CK.below (zh (Below.refl wn_.heap.size wn_) (.cells #[.int .i64 1, .int .i64 1000] 194)))); have n2_ := Aside0.mk (zh HB.out (.cells #[.int .i64 1, .int .i64 1000] 194)); clear HM HMP HB; have HM := n0_; have HMP := n1_; have HB := n2_; clear n0_ n1_ n2_; refine zy _ rfl rfl Tryd.func119 (by kernel_rfl) rfl _ rfl (by (try simp only [List.map_toArray, List.map_cons, List.map_nil]); first | done | rfl) ?_; refine (counted_c _ 7 false [(1, 1000)] _ _ (bnd1 ob_) (by decide)).mono ?_; rintro e wn_ ⟨gb_, gf_, gk_, rfl, hpk_, hb⟩; refine ⟨_, rfl, ?_⟩; have HPK := Aside0.mk hpk_; have n0_ := Aside0.mk (HM.out.move (hb.block _ HM.out.lt)); have n1_ := Aside0.mk (MP.ck HMP.out (YtfiojiokmkiflaaDoorH.CK.below hb)); have n2_ := Aside0.mk (zm HB.out hb); clear HM HMP HB; have HM := n0_; have HMP := n1_; have HB := n2_; clear n0_ n1_ n2_ hb; clear hpk_) | ((with_reducible refine zu (N := 12) rfl ?_); (with_reducible refine zo (f := 119) rfl ?_); have ob_ := blk_new wn_ (.cells #[.int .i64 1, .int .i64 10000] 194); have n0_ := Aside0.mk (HM.out.alloc (.cells #[.int .i64 1, .int .i64 10000] 194)); have n1_ := Aside0.mk (MP.ck HMP.out (YtfiojiokmkiflaaDoorH.CK.below (zh (Below.refl wn_.heap.size wn_) (.cells #[.int .i64 1, .int .i64 10000] 194)))); have n2_ := Aside0.mk (zh HB.out (.cells #[.int .i64 1, .int .i64 10000] 194)); clear HM HMP HB; have HM := n0_; have HMP := n1_; have HB := n2_; clear n0_ n1_ n2_; refine zy _ rfl rfl Tryd.func119 (by kernel_rfl) rfl _ rfl (by (try simp only [List.map_toArray, List.map_cons, List.map_nil]); first | done | rfl) ?_; refine (counted_c _ 8 true [(1, 10000)] _ _ (bnd1 ob_) (by decide)).mono ?_; rintro e wn_ ⟨gb_, gf_, gk_, rfl, hpk_, hb⟩; refine ⟨_, rfl, ?_⟩; have HPK := Aside0.mk hpk_; have n0_ := Aside0.mk (HM.out.move (hb.block _ HM.out.lt)); have n1_ := Aside0.mk (MP.ck HMP.out (YtfiojiokmkiflaaDoorH.CK.below hb)); have n2_ := Aside0.mk (zm HB.out hb); clear HM HMP HB; have HM := n0_; have HMP := n1_; have HB := n2_; clear n0_ n1_ n2_ hb; clear hpk_) | ((with_reducible refine zu (N := 13) rfl ?_); (with_reducible refine zo (f := 119) rfl ?_); refine zy _ rfl rfl Tryd.func119 (by kernel_rfl) rfl _ rfl (by (try simp only [List.map_toArray, List.map_cons, List.map_nil]); first | done | rfl) ?_; refine (counted_c _ 9 true [] _ _ (bnd0) (by decide)).mono ?_; rintro e wn_ ⟨gb_, gf_, gk_, rfl, hpk_, hb⟩; refine ⟨_, rfl, ?_⟩; have HPK := Aside0.mk hpk_; have n0_ := Aside0.mk (HM.out.move (hb.block _ HM.out.lt)); have n1_ := Aside0.mk (MP.ck HMP.out (YtfiojiokmkiflaaDoorH.CK.below hb)); have n2_ := Aside0.mk (zm HB.out hb); clear HM HMP HB; have HM := n0_; have HMP := n1_; have HB := n2_; clear n0_ n1_ n2_ hb; clear hpk_) | ((with_reducible refine zu (N := 18) rfl ?_); (with_reducible refine zo (f := 119) rfl ?_); have ob_ := blk_new wn_ (.cells #[.int .i64 0, .int .i64 1, .int .i64 0, .int .i64 4095, .int .i64 1, .int .i64 255] 194); have n0_ := Aside0.mk (HM.out.alloc (.cells #[.int .i64 0, .int .i64 1, .int .i64 0, .int .i64 4095, .int .i64 1, .int .i64 255] 194)); have n1_ := Aside0.mk (MP.ck HMP.out (YtfiojiokmkiflaaDoorH.CK.below (zh (Below.refl wn_.heap.size wn_) (.cells #[.int .i64 0, .int .i64 1, .int .i64 0, .int .i64 4095, .int .i64 1, .int .i64 255] 194)))); have n2_ := Aside0.mk (zh HB.out (.cells #[.int .i64 0, .int .i64 1, .int .i64 0, .int .i64 4095, .int .i64 1, .int .i64 255] 194)); clear HM HMP HB; have HM := n0_; have HMP := n1_; have HB := n2_; clear n0_ n1_ n2_; refine zy _ rfl rfl Tryd.func119 (by kernel_rfl) rfl _ rfl (by (try simp only [List.map_toArray, List.map_cons, List.map_nil]); first | done | rfl) ?_; refine (counted_c _ 10 false [(0, 1), (0, 4095), (1, 255)] _ _ (bnd3 ob_) (by decide)).mono ?_; rintro e wn_ ⟨gb_, gf_, gk_, rfl, hpk_, hb⟩; refine ⟨_, rfl, ?_⟩; have HPK := Aside0.mk hpk_; have n0_ := Aside0.mk (HM.out.move (hb.block _ HM.out.lt)); have n1_ := Aside0.mk (MP.ck HMP.out (YtfiojiokmkiflaaDoorH.CK.below hb)); have n2_ := Aside0.mk (zm HB.out hb); clear HM HMP HB; have HM := n0_; have HMP := n1_; have HB := n2_; clear n0_ n1_ n2_ hb; clear hpk_))
 go_ret
 exact ⟨gm, _, rfl, HM.out, HMP.out, HB.out⟩
def AllM (F : List (ByteArray × (Nat → List ByteArray → Option (Int × List S124 × Bool × ByteArray × List Int × Bool)))) : Prop := ∀ key f, YtfiojiokmkiflaaDoorH.aget F key = some f → ∀ l k, LeO (f k l) (f (k + 1) l)
theorem AllM.nil : AllM [] := fun _ _ h => by cases h
theorem AllM.set {F : List (ByteArray × (Nat → List ByteArray → Option (Int × List S124 × Bool × ByteArray × List Int × Bool)))} {k : ByteArray} {f : Nat → List ByteArray → Option (Int × List S124 × Bool × ByteArray × List Int × Bool)} (h : AllM F) (hf : ∀ l k, LeO (f k l) (f (k + 1) l)) : AllM (YtfiojiokmkiflaaDoorH.aset F k f) := fun key g hg => by
 rw [YtfiojiokmkiflaaDoorH.aget_aset] at hg
 split at hg
 ·cases hg; exact hf
 ·exact h key g hg
theorem cntF.mono (kind : Int) (free : Bool) (bs : List (Int × Int)) (l : List ByteArray) (k : Nat) : LeO (cntF kind free bs k l) (cntF kind free bs (k + 1) l) := LeO.bind (impl_numbers.mono _ _) (fun _ => LeO.refl _)
theorem prsL_all : AllM prsL := by
 unfold prsL
 repeat' first
  | exact AllM.nil
  | refine AllM.set ?_ (fun l k => impl_single.mono l k)
  | refine AllM.set ?_ (fun l k => impl_multi.mono l k)
  | refine AllM.set ?_ (fun l k => LeO.refl _)
  | refine AllM.set ?_ (fun l k => cntF.mono _ _ _ l k)
def strconv_syntaxError.f (a0 : ByteArray) : Option (Bool) := some (YtfiojiokmkiflaaDoorH.aget prsL a0).isSome
theorem prs_known {W : World} {m : List (ByteArray × Value)} {key : ByteArray} (h : strconv_syntaxError.f key = some true) (hm : MP W m prsL) : ∃ v f, YtfiojiokmkiflaaDoorH.aget m key = some v ∧ YtfiojiokmkiflaaDoorH.aget prsL key = some f ∧ PK W v f := by
 rcases hm key with hk | ⟨_, h2⟩
 ·exact hk
 ·rw [strconv_syntaxError.f, h2] at h; cases h
theorem prs_unknown {W : World} {m : List (ByteArray × Value)} {key : ByteArray} (h : strconv_syntaxError.f key = some false) (hm : MP W m prsL) : YtfiojiokmkiflaaDoorH.aget m key = none := by
 rcases hm key with ⟨v, f, _, h2, _⟩ | ⟨h1, _⟩
 ·rw [strconv_syntaxError.f, h2] at h; cases h
 ·exact h1
theorem prs_some {w : World} {gm : Nat} {m : List (ByteArray × Value)} {key : ByteArray} {v : Value} (hm : YtfiojiokmkiflaaDoorH.MapS id w gm m) (hk : YtfiojiokmkiflaaDoorH.aget m key = some v) :
  (Instr.lookup 133 (.map (some gm)) (.string key) true).run Tryd.prog w = .ok (.tuple #[v, .bool true]) w := by
 have hh := YtfiojiokmkiflaaDoorH.run_lookup (E := 131) (YtfiojiokmkiflaaDoorH.str_key Tryd.underlying9) Tryd.underlying133 key .nilFunc (fun w => (zero_of_info (P := Tryd.prog) (t := 131) (v := .nilFunc) (n := 1) (by kernel_rfl)).1 w) hm.is
 rw [hk] at hh
 exact hh
theorem prs_none {w : World} {gm : Nat} {m : List (ByteArray × Value)} {key : ByteArray} (hm : YtfiojiokmkiflaaDoorH.MapS id w gm m) (hk : YtfiojiokmkiflaaDoorH.aget m key = none) :
  (Instr.lookup 133 (.map (some gm)) (.string key) true).run Tryd.prog w = .ok (.tuple #[.nilFunc, .bool false]) w := by
 have hh := YtfiojiokmkiflaaDoorH.run_lookup (E := 131) (YtfiojiokmkiflaaDoorH.str_key Tryd.underlying9) Tryd.underlying133 key .nilFunc (fun w => (zero_of_info (P := Tryd.prog) (t := 131) (v := .nilFunc) (n := 1) (by kernel_rfl)).1 w) hm.is
 rw [hk] at hh
 exact hh
theorem dynL_ {P : Program} {ops : Array Oper} {Q : Exit → Act → World → Prop} {rest : List Oper} {oi : Oper} {a : Act} {w : World} (N : Option Tmp) (hd : oi.dst = N) (hg : oi.guard = none) {x : Operand} {as_ : Array Operand} {ts : Array TypeId} {g : FuncId} {bound : Array Value} (args : Array Value)
  (hop : oi.op = .call { callee := .value x, args := as_, argTypes := ts }) (hv : a.eval x = .func (.func g) #[] bound) (hargs : as_.map a.eval = args) (he : ∀ args w, (callFunc g args).run P w = .ok (.enter g args) w)
  (h : Calls P g (args ++ bound) w fun e w' => ∃ v, e = .returned v ∧ wpList P ops Q rest (a.put N v) w') : wpList P ops Q (oi :: rest) a w := by
 refine wpList_plain hg fun K hK => ?_
 have hrun : (execOp a.eval oi).run P w = .ok (.enter g (args ++ bound)) w := by
  unfold execOp
  simp [hop, hv, resolve, Deferred.ofValue, invoke, hargs, he]
 unfold Oper.wp
 rw [hrun, Oper.upon_enter]
 refine h.mono fun e w'' hh => ?_
 obtain ⟨v, rfl, hk⟩ := hh
 subst hd
 exact hK _ _ hk

def strconv_rangeError.f (k : Nat) (l0 : List ByteArray) : Option (Int × List S124 × Bool × ByteArray × List Int × Bool) := if 1 ≤ l0.length then (match YtfiojiokmkiflaaDoorH.aget prsL (rdOf ByteArray.empty l0 0) with | some f => f k l0 | none => none) else none
theorem strconv_rangeError.mono : ∀ a0 k, LeO (strconv_rangeError.f k a0) (strconv_rangeError.f (k + 1) a0) := by
 intro a0 k
 unfold strconv_rangeError.f
 refine LeO.ite ?_ (LeO.refl _)
 cases h : YtfiojiokmkiflaaDoorH.aget prsL (rdOf ByteArray.empty a0 0) with
 | none => exact LeO.refl _
 | some f => exact prsL_all _ f h a0 k
theorem prs_by {k : Nat} {l0 : List ByteArray} {f : Nat → List ByteArray → Option (Int × List S124 × Bool × ByteArray × List Int × Bool)} {r : Int × List S124 × Bool × ByteArray × List Int × Bool} (hf : YtfiojiokmkiflaaDoorH.aget prsL (rdOf ByteArray.empty l0 0) = some f) (h : strconv_rangeError.f k l0 = some r) : f k l0 = some r ∧ 1 ≤ l0.length := by
 unfold strconv_rangeError.f at h
 split at h
 ·rename_i h1
  rw [hf] at h
  exact ⟨h, h1⟩
 ·cases h

mutual
def impl_ParseLine.l0 : Nat → List ByteArray → List ByteArray → Int → Int → Option (Int × (List (S124)) × Bool × ByteArray × List Int)
 | 0, _, _, _, _ => none
 | k + 1, x3, x17, x18, x19 => if x19 < x18 then (if 0 ≤ x19 then (if x19 < (x17.length : Int) then (impl_ParseLine.l1 k x3 (rdOf ByteArray.empty x17 x19) x17 x18 x19 ((rdOf ByteArray.empty x17 x19).size : Int) 0) else (none)) else (none)) else (if 0 < (x3.length : Int) then ((strconv_syntaxError.f (rdOf ByteArray.empty x3 0)).bind fun t310 => (if t310 = true then ((strconv_rangeError.f k x3).bind fun bt311 => (if bt311.2.2.2.2.2 = true then (some (bt311.1, bt311.2.1, bt311.2.2.1, bt311.2.2.2.1, bt311.2.2.2.2.1)) else (some (0, ([] : List (S124)), false, (⟨#[]⟩ : ByteArray), ([] : List Int))))) else (some (0, ([] : List (S124)), false, (⟨#[]⟩ : ByteArray), ([] : List Int))))) else (none))
def impl_ParseLine.l1 : Nat → List ByteArray → ByteArray → List ByteArray → Int → Int → Int → Int → Option (Int × (List (S124)) × Bool × ByteArray × List Int)
 | 0, _, _, _, _, _, _, _ => none
 | k + 1, x3, x5, x17, x18, x19, x24, x25 => if x25 < x24 then (if 0 ≤ x25 then (if x25 < (x5.size : Int) then (if (bt x5 x25) < 33 then (some (0, ([] : List (S124)), false, (⟨#[]⟩ : ByteArray), ([] : List Int))) else (if (bt x5 x25) > 126 then (some (0, ([] : List (S124)), false, (⟨#[]⟩ : ByteArray), ([] : List Int))) else (impl_ParseLine.l1 k x3 x5 x17 x18 x19 x24 (wrap64 (x25 + 1))))) else (none)) else (none)) else (if x5.toList = ([] : List UInt8) then (some (0, ([] : List (S124)), false, (⟨#[]⟩ : ByteArray), ([] : List Int))) else (impl_ParseLine.l0 k x3 x17 x18 (wrap64 (x19 + 1))))
end
def impl_ParseLine.f (k : Nat) (l0 : List Int) : Option (Int × (List (S124)) × Bool × ByteArray × List Int) := if (l0.length : Int) > 60000 then (some (0, ([] : List (S124)), false, (⟨#[]⟩ : ByteArray), ([] : List Int))) else ((strings_Split.f (strOfNums l0) (⟨#[32]⟩ : ByteArray)).bind fun t305 => (impl_ParseLine.l0 k t305 t305 (t305.length : Int) 0))
theorem impl_ParseLine.mono_l : ∀ k, (∀ y0 y1 y2 y3, LeO (impl_ParseLine.l0 k y0 y1 y2 y3) (impl_ParseLine.l0 (k + 1) y0 y1 y2 y3)) ∧ (∀ y0 y1 y2 y3 y4 y5 y6, LeO (impl_ParseLine.l1 k y0 y1 y2 y3 y4 y5 y6) (impl_ParseLine.l1 (k + 1) y0 y1 y2 y3 y4 y5 y6))
 | 0 => ⟨fun _ _ _ _ r h => by simp [impl_ParseLine.l0] at h, fun _ _ _ _ _ _ _ r h => by simp [impl_ParseLine.l1] at h⟩
 | k + 1 => by
  obtain ⟨ih0, ih1⟩ := impl_ParseLine.mono_l k
  refine ⟨?_, ?_⟩
  ·intro y0 y1 y2 y3
   unfold impl_ParseLine.l0
   repeat' first
   | (with_reducible exact ih0 _ _ _ _)
   | (with_reducible exact ih1 _ _ _ _ _ _ _)
   | (with_reducible exact strconv_rangeError.mono _ _)
   | (with_reducible exact LeO.refl _)
   | (with_reducible exact LeO.none _)
   | (with_reducible refine LeO.ite ?_ ?_)
   | (with_reducible refine LeO.bind ?_ (fun _ => ?_))
   | exact ih0 _ _ _ _
   | exact ih1 _ _ _ _ _ _ _
   | exact strconv_rangeError.mono _ _
   | exact LeO.none _
   | refine LeO.ite ?_ ?_
   | refine LeO.bind ?_ (fun _ => ?_)
  ·intro y0 y1 y2 y3 y4 y5 y6
   unfold impl_ParseLine.l1
   repeat' first
   | (with_reducible exact ih0 _ _ _ _)
   | (with_reducible exact ih1 _ _ _ _ _ _ _)
   | (with_reducible exact strconv_rangeError.mono _ _)
   | (with_reducible exact LeO.refl _)
   | (with_reducible exact LeO.none _)
   | (with_reducible refine LeO.ite ?_ ?_)
   | (with_reducible refine LeO.bind ?_ (fun _ => ?_))
   | exact ih0 _ _ _ _
   | exact ih1 _ _ _ _ _ _ _
   | exact strconv_rangeError.mono _ _
   | exact LeO.none _
   | refine LeO.ite ?_ ?_
   | refine LeO.bind ?_ (fun _ => ?_)
theorem impl_ParseLine.mono : ∀ a0 k, LeO (impl_ParseLine.f k a0) (impl_ParseLine.f (k + 1) a0) := by
 intro a0 k
 obtain ⟨ih0, ih1⟩ := impl_ParseLine.mono_l k
 unfold impl_ParseLine.f
 repeat' first
   | (with_reducible exact ih0 _ _ _ _)
   | (with_reducible exact ih1 _ _ _ _ _ _ _)
   | (with_reducible exact strconv_rangeError.mono _ _)
   | (with_reducible exact LeO.refl _)
   | (with_reducible exact LeO.none _)
   | (with_reducible refine LeO.ite ?_ ?_)
   | (with_reducible refine LeO.bind ?_ (fun _ => ?_))
   | exact ih0 _ _ _ _
   | exact ih1 _ _ _ _ _ _ _
   | exact strconv_rangeError.mono _ _
   | exact LeO.none _
   | refine LeO.ite ?_ ?_
   | refine LeO.bind ?_ (fun _ => ?_)
set_option maxHeartbeats 8000000 in
set_option maxRecDepth 100000 in
theorem impl_ParseLine.calls (k : Nat) (A0 : Option Addr) (c0 : Nat) (l0 : List Int) (r1 : Int) (r2 : List (S124)) (r3 : Bool) (r4 : ByteArray) (r5 : List Int) (w : World) (hr0 : Kd.C (Kd.int .u8) w A0 l0.length l0) (hc0 : l0.length ≤ c0) (h : impl_ParseLine.f k l0 = some (r1, r2, r3, r4, r5)) (hGMAX_ : Go.Proofs.YtfiojiokmkiflaaDoorH.GFMAX w) :
  Calls Tryd.prog 29 #[.slice A0 l0.length c0] w fun e w' => ∃ v1_ v4_ : Value, e = .returned (.agg #[.int .i64 r1, v1_, .bool r3, .string r4, v4_]) ∧ Kd.R k124 124 w' w.heap.size (fun _ => True) v1_ r2 ∧ Kd.R (Kd.int .i64) 2 w' w.heap.size (fun _ => True) v4_ r5 ∧ Below w.heap.size w w' := by
 have HGMAX_ := Aside0.mk hGMAX_
 clear hGMAX_
 have hu66 := Tryd.underlying66
 have HR0 := Aside0.mk hr0
 have HC0 := Aside0.mk hc0
 clear hr0 hc0
 have HB := Aside0.mk (Below.refl w.heap.size w)
 have H : (if (l0.length : Int) > 60000 then (some (0, ([] : List (S124)), false, (⟨#[]⟩ : ByteArray), ([] : List Int))) else ((strings_Split.f (strOfNums l0) (⟨#[32]⟩ : ByteArray)).bind fun t305 => (impl_ParseLine.l0 k t305 t305 (t305.length : Int) 0))) = some (r1, r2, r3, r4, r5) := h
 clear h
 by_cases c2 : (l0.length : Int) > 60000
 ·rw [if_pos c2] at H
  have c2b0 : decide (60000 < (l0.length : Int)) = true := decide_eq_true c2
  have c2b1 : decide (60000 < l0.length) = true := decide_eq_true (by omega)
  clear c2
  simp only [Option.some.injEq, Prod.mk.injEq] at H
  obtain ⟨rfl, rfl, rfl, rfl, rfl⟩ := H
  go_enter Tryd.func29, Tryd.ntmps29
  go_wp2_with (first | ((with_reducible refine zu (N := 2) rfl ?_); refine zz ?hg (N := 2) ?hd (cs := #[.int .i64 0, .slice none 0 0, .bool false, .string (⟨#[]⟩ : ByteArray), .slice none 0 0]) (t := 66) ?hr ?_; (case hd => rfl); (case hg => rfl); (case hr => first | (go_simp; done) | (go_simp; rfl)); intro zD hg w3 hbox hb; have n0_ := Aside0.mk (zm (by exact bl HB.out) hb); have n1_ := Aside0.mk (hbox); have n2_ := Aside0.mk ((by rw [hg]; exact (zn (by exact bl HB.out)) : w.heap.size ≤ zD)); have n3_ := Aside0.mk ((by rw [hg]; exact (zn (by exact bl HB.out)) : w.heap.size ≤ zD)); clear HB; have HB := n0_; have zC := n1_; have GW304 := n2_; have zJ := n3_; clear n0_ n1_ n2_ n3_; clear hb hbox hg; have zQ : w3.cell? ⟨zD, 0, none⟩ = some (.int .i64 0) := (zc zC.out 0).trans rfl; have zR : w3.cell? ⟨zD, 1, none⟩ = some (.slice none 0 0) := (zc zC.out 1).trans rfl; have zS : w3.cell? ⟨zD, 2, none⟩ = some (.bool false) := (zc zC.out 2).trans rfl; have zT : w3.cell? ⟨zD, 3, none⟩ = some (.string (⟨#[]⟩ : ByteArray)) := (zc zC.out 3).trans rfl; have zU : w3.cell? ⟨zD, 4, none⟩ = some (.slice none 0 0) := (zc zC.out 4).trans rfl; have zV := zb zC.out 0; have zW := zb zC.out 1; have zX := zb zC.out 2; have zY := zb zC.out 3; have zZ := zb zC.out 4))
  refine bodyPost_ret (results_cell_row rfl _ _ zD 66 #[.int .i64 0, .slice none 0 0, .bool false, .string (⟨#[]⟩ : ByteArray), .slice none 0 0] (0, 0) _ rfl (bfin (by (repeat (first | (with_reducible first | refine zf ?_ _ | refine zj ?_ | refine ze ?_ _) | apply zA)); exact zC.out) (by rfl)) Tryd.underlying66 rfl (by kernel_rfl)) rfl ?_
  exact ⟨_, _, by first | rfl | (simp [*] <;> rfl), by first | exact Kd.R_nil _ _ _ _ _ | exact Kd.N_nil _ _ _ _ _ | exact Kd.V_nil _ _ _ _ _ | exact Kd.Q_nil _ _ _ _ _ | exact Kd.S_nil _ _ _ _ _, by first | exact Kd.R_nil _ _ _ _ _ | exact Kd.N_nil _ _ _ _ _ | exact Kd.V_nil _ _ _ _ _ | exact Kd.Q_nil _ _ _ _ _ | exact Kd.S_nil _ _ _ _ _, by repeat (first | (with_reducible first | exact HB.out | apply zh | apply zd | apply zi | refine zl ?_ zJ.out) | exact HB.out)⟩
 ·rw [if_neg c2] at H
  have c2b0 : decide (60000 < (l0.length : Int)) = false := decide_eq_false c2
  have c2b1 : decide (60000 < l0.length) = false := decide_eq_false (by omega)
  clear c2
  replace H := Option.bind_eq_some_iff.mp H
  obtain ⟨t305, A50, H⟩ := H
  try dsimp only at H
  have A5 := Aside0.mk A50
  clear A50
  have H' := Aside0.mk H
  clear H
  go_enter Tryd.func29, Tryd.ntmps29
  go_wp2_with (first | ((with_reducible refine zu (N := 2) rfl ?_); refine zz ?hg (N := 2) ?hd (cs := #[.int .i64 0, .slice none 0 0, .bool false, .string (⟨#[]⟩ : ByteArray), .slice none 0 0]) (t := 66) ?hr ?_; (case hd => rfl); (case hg => rfl); (case hr => first | (go_simp; done) | (go_simp; rfl)); intro zD hg w6 hbox hb; have n0_ := Aside0.mk (zm (by exact bl HB.out) hb); have n1_ := Aside0.mk (hbox); have n2_ := Aside0.mk ((by rw [hg]; exact (zn (by exact bl HB.out)) : w.heap.size ≤ zD)); have n3_ := Aside0.mk ((by rw [hg]; exact (zn (by exact bl HB.out)) : w.heap.size ≤ zD)); clear HB; have HB := n0_; have zC := n1_; have GW304 := n2_; have zJ := n3_; clear n0_ n1_ n2_ n3_; clear hb hbox hg; have hcv7 := Kd.C_string (P := Tryd.prog) (A := A0) (c := c0) Tryd.underlying22 Tryd.underlying5 Tryd.underlying9 (Kd.C_below HR0.out HB.out)) | ((with_reducible refine zo (f := 77) rfl ?_); refine zy (some 16) rfl rfl Tryd.func77 (by kernel_rfl) rfl #[.string (strOfNums l0), .string (⟨#[32]⟩ : ByteArray)] rfl (by (try simp only [List.map_toArray, List.map_cons, List.map_nil]); first | done | rfl) ?_; (with_reducible refine (strings_Split.calls (strOfNums l0) (⟨#[32]⟩ : ByteArray) t305 _ A5.out ?globMAX_).mono ?_); (case globMAX_ => exact Go.Proofs.YtfiojiokmkiflaaDoorH.GFMAX.below HGMAX_.out (by repeat (first | (with_reducible first | exact HB.out | exact Below.refl _ _ | apply zh | apply zd | apply zi | refine zl ?_ (Aside0.out (by assumption))) | exact HB.out))); rintro e w8 ⟨v306, rfl, zN, hb⟩; refine ⟨_, rfl, ?_⟩; have n0_ := Aside0.mk (Kd.R_lower zN (zn (by exact bl HB.out))); have n1_ := Aside0.mk (zp (g := zD) (o := .cells #[.int .i64 0, .slice none 0 0, .bool false, .string (⟨#[]⟩ : ByteArray), .slice none 0 0] 66 (0, 0)) (BL zC.out) hb); have n2_ := Aside0.mk (zm (by exact bl HB.out) hb); clear zC; clear HB; have zO := n0_; have zC := n1_; have HB := n2_; clear n0_ n1_ n2_; (try clear hb); (try clear hb2); (try clear hk); (try clear hi); (try clear zN); obtain ⟨Ao9, co9, eo9⟩ := Kd.R_slice zO.out; subst eo9))
  go_loopg [19] k (fun kq v19 w' => ∃ (x19_1 : Int) (x305000_1 : Int) (x305002_1 : Bool) (x305003_1 : ByteArray), v19 = .int .i64 x19_1 ∧ Aside0 (impl_ParseLine.l0 kq t305 t305 (t305.length : Int) x19_1 = some (r1, r2, r3, r4, r5)) ∧ Aside0 (kq ≤ k) ∧ Aside0 (Kd.R Kd.string 9 w' w.heap.size (fun _ => True) (.slice Ao9 t305.length co9) t305) ∧ Aside0 (Kd.R Kd.string 9 w' w.heap.size (fun _ => True) (.slice Ao9 t305.length co9) t305) ∧ Aside0 (w'.heap[zD]? = some (.cells #[.int .i64 x305000_1, (.slice none 0 0), .bool x305002_1, .string x305003_1, (.slice none 0 0)] 66 (0, 0))) ∧ Aside0 (Below w.heap.size w w'))
  case atStart => exact ⟨(0), (0), (false), ((⟨#[]⟩ : ByteArray)), (by first | rfl | (simp [*]; done)), H', ⟨Nat.le_refl _⟩, ⟨RL zO.out⟩, ⟨RL zO.out⟩, ⟨BL zC.out⟩, ⟨by repeat (first | (with_reducible first | exact HB.out | apply zh | apply zd | apply zi | refine zl ?_ zJ.out) | exact HB.out)⟩⟩
  case round =>
   clear H'
   try clear c2
   try clear c2b0
   try clear c2b1
   try clear p2
   try clear c7
   try clear hcv7
   try clear zQ
   try clear zR
   try clear zS
   try clear zT
   try clear zU
   try clear zV
   try clear zW
   try clear zX
   try clear zY
   try clear zZ
   obtain ⟨x19_1, x305000_1, x305002_1, x305003_1, rfl, HA, HK1, zF, zE, zC, HB⟩ := hrel
   cases gk with
   | zero => exact absurd HA.out (by simp [impl_ParseLine.l0])
   | succ k1 =>
    have H := HA.out
    clear HA
    simp only [impl_ParseLine.l0] at H
    by_cases c10 : x19_1 < (t305.length : Int)
    ·rw [if_pos c10] at H
     have c10b0 : decide (x19_1 < (t305.length : Int)) = true := decide_eq_true c10
     clear c10
     by_cases c11 : 0 ≤ x19_1
     ·rw [if_pos c11] at H
      have c11b0 : decide (0 ≤ x19_1) = true := decide_eq_true c11
      clear c11
      by_cases c12 : x19_1 < (t305.length : Int)
      ·rw [if_pos c12] at H
       have c12b0 : decide (x19_1 < (t305.length : Int)) = true := decide_eq_true c12
       clear c12
       have H' := Aside0.mk H
       clear H
       have p308 : 0 ≤ (x19_1 : Int) := of_decide_eq_true (by with_reducible assumption)
       have q308 : x19_1 < (t305.length : Int) := of_decide_eq_true (by with_reducible assumption)
       obtain ⟨ad308, e308, hx308_0⟩ := Kd.at_string (Kd.R_reads' zE.out).2.2 x19_1 p308 q308
       cases e308
       replace p308 := eq_true p308
       replace q308 := eq_true q308
       go_wp2
       go_loopg [25] k1 (fun kq v25 w' => ∃ (x25_2 : Int) (x305000_2 : Int) (x305002_2 : Bool) (x305003_2 : ByteArray), v25 = .int .i64 x25_2 ∧ Aside0 (impl_ParseLine.l1 kq t305 (rdOf ByteArray.empty t305 x19_1) t305 (t305.length : Int) x19_1 ((rdOf ByteArray.empty t305 x19_1).size : Int) x25_2 = some (r1, r2, r3, r4, r5)) ∧ Aside0 (kq ≤ k1) ∧ Aside0 (Kd.R Kd.string 9 w' w.heap.size (fun _ => True) (.slice (some ad308) t305.length co9) t305) ∧ Aside0 (Kd.R Kd.string 9 w' w.heap.size (fun _ => True) (.slice (some ad308) t305.length co9) t305) ∧ Aside0 (w'.heap[zD]? = some (.cells #[.int .i64 x305000_2, (.slice none 0 0), .bool x305002_2, .string x305003_2, (.slice none 0 0)] 66 (0, 0))) ∧ Aside0 (Below w.heap.size w w'))
       case atStart => exact ⟨(0), (x305000_1), (x305002_1), (x305003_1), (by first | rfl | (simp [*]; done)), H', ⟨Nat.le_refl _⟩, ⟨RL zF.out⟩, ⟨RL zE.out⟩, ⟨BL zC.out⟩, ⟨by repeat (first | (with_reducible first | exact HB.out | apply zh | apply zd | apply zi | refine zl ?_ zJ.out) | exact HB.out)⟩⟩
       case round =>
        clear H'
        try clear c1
        try clear c2
        try clear c2b0
        try clear c2b1
        try clear p2
        try clear p3
        try clear q3
        try clear hx3
        try clear c7
        try clear hcv7
        try clear c10
        try clear c10b0
        try clear c11
        try clear c11b0
        try clear c12
        try clear c12b0
        try clear zQ
        try clear zR
        try clear zS
        try clear zT
        try clear zU
        try clear zV
        try clear zW
        try clear zX
        try clear zY
        try clear zZ
        try clear hx308_0
        try clear p2
        try clear p308
        try clear q308
        obtain ⟨x25_2, x305000_2, x305002_2, x305003_2, rfl, HA, HK2, zF, zE, zC, HB⟩ := hrel
        cases gk with
        | zero => exact absurd HA.out (by simp [impl_ParseLine.l1])
        | succ k2 =>
         have H := HA.out
         clear HA
         simp only [impl_ParseLine.l1] at H
         by_cases c13 : x25_2 < ((rdOf ByteArray.empty t305 x19_1).size : Int)
         ·rw [if_pos c13] at H
          have c13b0 : decide (x25_2 < ((rdOf ByteArray.empty t305 x19_1).size : Int)) = true := decide_eq_true c13
          clear c13
          by_cases c14 : 0 ≤ x25_2
          ·rw [if_pos c14] at H
           have c14b0 : decide (0 ≤ x25_2) = true := decide_eq_true c14
           clear c14
           by_cases c15 : x25_2 < ((rdOf ByteArray.empty t305 x19_1).size : Int)
           ·rw [if_pos c15] at H
            have c15b0 : decide (x25_2 < ((rdOf ByteArray.empty t305 x19_1).size : Int)) = true := decide_eq_true c15
            clear c15
            by_cases c17 : (bt (rdOf ByteArray.empty t305 x19_1) x25_2) < 33
            ·rw [if_pos c17] at H
             have c17b0 : decide ((bt (rdOf ByteArray.empty t305 x19_1) x25_2) < 33) = true := decide_eq_true c17
             clear c17
             simp only [Option.some.injEq, Prod.mk.injEq] at H
             obtain ⟨rfl, rfl, rfl, rfl, rfl⟩ := H
             have p16 : 0 ≤ (x25_2 : Int) := of_decide_eq_true (by with_reducible assumption)
             have q16 : x25_2 < ((rdOf ByteArray.empty t305 x19_1).size : Int) := of_decide_eq_true (by with_reducible assumption)
             have hx16 := bt_at (rdOf ByteArray.empty t305 x19_1) x25_2
             replace p16 := eq_true p16
             replace q16 := eq_true q16
             have zbb : wr.cell? ⟨zD, 0, none⟩ = some (.int .i64 x305000_2) := (zc zC.out 0).trans rfl
             have zcb : wr.cell? ⟨zD, 1, none⟩ = some (.slice none 0 0) := (zc zC.out 1).trans rfl
             have zdb : wr.cell? ⟨zD, 2, none⟩ = some (.bool x305002_2) := (zc zC.out 2).trans rfl
             have zeb : wr.cell? ⟨zD, 3, none⟩ = some (.string x305003_2) := (zc zC.out 3).trans rfl
             have zfb : wr.cell? ⟨zD, 4, none⟩ = some (.slice none 0 0) := (zc zC.out 4).trans rfl
             have zgb := zb zC.out 0
             have zhb := zb zC.out 1
             have zib := zb zC.out 2
             have zjb := zb zC.out 3
             have zkb := zb zC.out 4
             go_wp2
             refine bodyPost_ret (results_cell_row rfl _ _ zD 66 #[.int .i64 0, .slice none 0 0, .bool false, .string (⟨#[]⟩ : ByteArray), .slice none 0 0] (0, 0) _ rfl (bfin (by (repeat (first | (with_reducible first | refine zf ?_ _ | refine zj ?_ | refine ze ?_ _) | apply zA)); exact zC.out) (by rfl)) Tryd.underlying66 rfl (by kernel_rfl)) rfl ?_
             exact ⟨_, _, by first | rfl | (simp [*] <;> rfl), by first | exact Kd.R_nil _ _ _ _ _ | exact Kd.N_nil _ _ _ _ _ | exact Kd.V_nil _ _ _ _ _ | exact Kd.Q_nil _ _ _ _ _ | exact Kd.S_nil _ _ _ _ _, by first | exact Kd.R_nil _ _ _ _ _ | exact Kd.N_nil _ _ _ _ _ | exact Kd.V_nil _ _ _ _ _ | exact Kd.Q_nil _ _ _ _ _ | exact Kd.S_nil _ _ _ _ _, by repeat (first | (with_reducible first | exact HB.out | apply zh | apply zd | apply zi | refine zl ?_ zJ.out) | exact HB.out)⟩
            ·rw [if_neg c17] at H
             have c17b0 : decide ((bt (rdOf ByteArray.empty t305 x19_1) x25_2) < 33) = false := decide_eq_false c17
             clear c17
             by_cases c20 : (bt (rdOf ByteArray.empty t305 x19_1) x25_2) > 126
             ·rw [if_pos c20] at H
              have c20b0 : decide (126 < (bt (rdOf ByteArray.empty t305 x19_1) x25_2)) = true := decide_eq_true c20
              clear c20
              simp only [Option.some.injEq, Prod.mk.injEq] at H
              obtain ⟨rfl, rfl, rfl, rfl, rfl⟩ := H
              have p16 : 0 ≤ (x25_2 : Int) := of_decide_eq_true (by with_reducible assumption)
              have q16 : x25_2 < ((rdOf ByteArray.empty t305 x19_1).size : Int) := of_decide_eq_true (by with_reducible assumption)
              have hx16 := bt_at (rdOf ByteArray.empty t305 x19_1) x25_2
              replace p16 := eq_true p16
              replace q16 := eq_true q16
              have p19 : 0 ≤ (x25_2 : Int) := of_decide_eq_true (by with_reducible assumption)
              have q19 : x25_2 < ((rdOf ByteArray.empty t305 x19_1).size : Int) := of_decide_eq_true (by with_reducible assumption)
              have hx19 := bt_at (rdOf ByteArray.empty t305 x19_1) x25_2
              replace p19 := eq_true p19
              replace q19 := eq_true q19
              have zlb : wr.cell? ⟨zD, 0, none⟩ = some (.int .i64 x305000_2) := (zc zC.out 0).trans rfl
              have zmb : wr.cell? ⟨zD, 1, none⟩ = some (.slice none 0 0) := (zc zC.out 1).trans rfl
              have znb : wr.cell? ⟨zD, 2, none⟩ = some (.bool x305002_2) := (zc zC.out 2).trans rfl
              have zob : wr.cell? ⟨zD, 3, none⟩ = some (.string x305003_2) := (zc zC.out 3).trans rfl
              have zpb : wr.cell? ⟨zD, 4, none⟩ = some (.slice none 0 0) := (zc zC.out 4).trans rfl
              have zqb := zb zC.out 0
              have zrb := zb zC.out 1
              have zsb := zb zC.out 2
              have ztb := zb zC.out 3
              have zub := zb zC.out 4
              go_wp2
              refine bodyPost_ret (results_cell_row rfl _ _ zD 66 #[.int .i64 0, .slice none 0 0, .bool false, .string (⟨#[]⟩ : ByteArray), .slice none 0 0] (0, 0) _ rfl (bfin (by (repeat (first | (with_reducible first | refine zf ?_ _ | refine zj ?_ | refine ze ?_ _) | apply zA)); exact zC.out) (by rfl)) Tryd.underlying66 rfl (by kernel_rfl)) rfl ?_
              exact ⟨_, _, by first | rfl | (simp [*] <;> rfl), by first | exact Kd.R_nil _ _ _ _ _ | exact Kd.N_nil _ _ _ _ _ | exact Kd.V_nil _ _ _ _ _ | exact Kd.Q_nil _ _ _ _ _ | exact Kd.S_nil _ _ _ _ _, by first | exact Kd.R_nil _ _ _ _ _ | exact Kd.N_nil _ _ _ _ _ | exact Kd.V_nil _ _ _ _ _ | exact Kd.Q_nil _ _ _ _ _ | exact Kd.S_nil _ _ _ _ _, by repeat (first | (with_reducible first | exact HB.out | apply zh | apply zd | apply zi | refine zl ?_ zJ.out) | exact HB.out)⟩
             ·rw [if_neg c20] at H
              have c20b0 : decide (126 < (bt (rdOf ByteArray.empty t305 x19_1) x25_2)) = false := decide_eq_false c20
              clear c20
              have H' := Aside0.mk H
              clear H
              have p16 : 0 ≤ (x25_2 : Int) := of_decide_eq_true (by with_reducible assumption)
              have q16 : x25_2 < ((rdOf ByteArray.empty t305 x19_1).size : Int) := of_decide_eq_true (by with_reducible assumption)
              have hx16 := bt_at (rdOf ByteArray.empty t305 x19_1) x25_2
              replace p16 := eq_true p16
              replace q16 := eq_true q16
              have p19 : 0 ≤ (x25_2 : Int) := of_decide_eq_true (by with_reducible assumption)
              have q19 : x25_2 < ((rdOf ByteArray.empty t305 x19_1).size : Int) := of_decide_eq_true (by with_reducible assumption)
              have hx19 := bt_at (rdOf ByteArray.empty t305 x19_1) x25_2
              replace p19 := eq_true p19
              replace q19 := eq_true q19
              go_wp2
              go_roundg k2
              case measure => have := HK1.out; have := HK2.out; omega
              case rel => exact ⟨(wrap64 (x25_2 + 1)), (x305000_2), (x305002_2), (x305003_2), (by first | rfl | (simp [*]; done)), H', ⟨by have := HK1.out; have := HK2.out; omega⟩, ⟨RL zF.out⟩, ⟨RL zE.out⟩, ⟨BL zC.out⟩, ⟨by repeat (first | (with_reducible first | exact HB.out | apply zh | apply zd | apply zi | refine zl ?_ zJ.out) | exact HB.out)⟩⟩
           ·rw [if_neg c15] at H
            exact absurd H (by simp)
          ·rw [if_neg c14] at H
           exact absurd H (by simp)
         ·rw [if_neg c13] at H
          have c13b0 : decide (x25_2 < ((rdOf ByteArray.empty t305 x19_1).size : Int)) = false := decide_eq_false c13
          clear c13
          by_cases c22 : (rdOf ByteArray.empty t305 x19_1).toList = ([] : List UInt8)
          ·rw [if_pos c22] at H
           have c22b0 : ((rdOf ByteArray.empty t305 x19_1).toList == ([] : List UInt8)) = true := beq_iff_eq.mpr c22
           have c22b1 : ((rdOf ByteArray.empty t305 x19_1).toList != ([] : List UInt8)) = false := bne_eq_false_iff_eq.mpr c22
           clear c22
           simp only [Option.some.injEq, Prod.mk.injEq] at H
           obtain ⟨rfl, rfl, rfl, rfl, rfl⟩ := H
           have zvb : wr.cell? ⟨zD, 0, none⟩ = some (.int .i64 x305000_2) := (zc zC.out 0).trans rfl
           have zwb : wr.cell? ⟨zD, 1, none⟩ = some (.slice none 0 0) := (zc zC.out 1).trans rfl
           have zxb : wr.cell? ⟨zD, 2, none⟩ = some (.bool x305002_2) := (zc zC.out 2).trans rfl
           have zyb : wr.cell? ⟨zD, 3, none⟩ = some (.string x305003_2) := (zc zC.out 3).trans rfl
           have zzb : wr.cell? ⟨zD, 4, none⟩ = some (.slice none 0 0) := (zc zC.out 4).trans rfl
           have zAb := zb zC.out 0
           have zBb := zb zC.out 1
           have zCb := zb zC.out 2
           have zDb := zb zC.out 3
           have zEb := zb zC.out 4
           go_wp2
           refine bodyPost_ret (results_cell_row rfl _ _ zD 66 #[.int .i64 0, .slice none 0 0, .bool false, .string (⟨#[]⟩ : ByteArray), .slice none 0 0] (0, 0) _ rfl (bfin (by (repeat (first | (with_reducible first | refine zf ?_ _ | refine zj ?_ | refine ze ?_ _) | apply zA)); exact zC.out) (by rfl)) Tryd.underlying66 rfl (by kernel_rfl)) rfl ?_
           exact ⟨_, _, by first | rfl | (simp [*] <;> rfl), by first | exact Kd.R_nil _ _ _ _ _ | exact Kd.N_nil _ _ _ _ _ | exact Kd.V_nil _ _ _ _ _ | exact Kd.Q_nil _ _ _ _ _ | exact Kd.S_nil _ _ _ _ _, by first | exact Kd.R_nil _ _ _ _ _ | exact Kd.N_nil _ _ _ _ _ | exact Kd.V_nil _ _ _ _ _ | exact Kd.Q_nil _ _ _ _ _ | exact Kd.S_nil _ _ _ _ _, by repeat (first | (with_reducible first | exact HB.out | apply zh | apply zd | apply zi | refine zl ?_ zJ.out) | exact HB.out)⟩
          ·rw [if_neg c22] at H
           have c22b0 : ((rdOf ByteArray.empty t305 x19_1).toList == ([] : List UInt8)) = false := beq_eq_false_iff_ne.mpr c22
           have c22b1 : ((rdOf ByteArray.empty t305 x19_1).toList != ([] : List UInt8)) = true := bne_iff_ne.mpr c22
           have H' := Aside0.mk H
           clear H
           go_wp2
           go_roundg k2
           case measure => have := HK1.out; have := HK2.out; omega
           case rel => exact ⟨(wrap64 (x19_1 + 1)), (x305000_2), (x305002_2), (x305003_2), (by first | rfl | (simp [*]; done)), H', ⟨by have := HK1.out; have := HK2.out; omega⟩, ⟨RL zF.out⟩, ⟨RL zE.out⟩, ⟨BL zC.out⟩, ⟨by repeat (first | (with_reducible first | exact HB.out | apply zh | apply zd | apply zi | refine zl ?_ zJ.out) | exact HB.out)⟩⟩
      ·rw [if_neg c12] at H
       exact absurd H (by simp)
     ·rw [if_neg c11] at H
      exact absurd H (by simp)
    ·rw [if_neg c10] at H
     have c10b0 : decide (x19_1 < (t305.length : Int)) = false := decide_eq_false c10
     clear c10
     by_cases c24 : 0 < (t305.length : Int)
     ·rw [if_pos c24] at H
      have c24b0 : decide (0 < (t305.length : Int)) = true := decide_eq_true c24
      have c24b1 : decide (0 < t305.length) = true := decide_eq_true (by omega)
      clear c24
      replace H := Option.bind_eq_some_iff.mp H
      obtain ⟨t310, A250, H⟩ := H
      try dsimp only at H
      have A25 := Aside0.mk A250
      clear A250
      by_cases c26 : t310 = true
      ·subst c26
       rw [if_pos rfl] at H
       replace H := Option.bind_eq_some_iff.mp H
       obtain ⟨⟨t311, t312, t315, t316, t317, t320⟩, A270, H⟩ := H
       try dsimp only at H
       have A27 := Aside0.mk A270
       clear A270
       by_cases c28 : t320 = true
       ·subst c28
        rw [if_pos rfl] at H
        simp only [Option.some.injEq, Prod.mk.injEq] at H
        obtain ⟨rfl, rfl, rfl, rfl, rfl⟩ := H
        try go_wp2
        have n0_ := Aside0.mk (Kd.R_drew zF.out)
        have n1_ := Aside0.mk (Kd.R_drew zE.out)
        have n2_ := Aside0.mk (zj zC.out)
        have n3_ := Aside0.mk (zi HB.out)
        clear zF
        clear zE
        clear zC
        clear HB
        have zF := n0_
        have zE := n1_
        have zC := n2_
        have HB := n3_
        clear n0_ n1_ n2_ n3_
        have p309 : 0 ≤ (0 : Int) := (by omega)
        have q309 : 0 < (t305.length : Int) := of_decide_eq_true (by with_reducible assumption)
        obtain ⟨ad309, e309, hx309_0⟩ := Kd.at_string (Kd.R_reads' zF.out).2.2 0 p309 q309
        cases e309
        have qi309 : (0 < t305.length) = True := eq_true (by omega)
        (try rw [show ((0 : Int)).toNat = 0 from rfl] at hx309_0)
        (try rw [Addr.add_zero'] at hx309_0)
        replace p309 := eq_true p309
        replace q309 := eq_true q309
        have hmf : ∀ (fn : Fn) (first cap : Array Value) (w : World), (Instr.makeFunc fn first cap).run Tryd.prog w = .ok (.func fn first cap) w := fun _ _ _ _ => rfl
        refine start_ (n := 10) (S := fun w' => w'.cell? ad309 = some (.string (rdOf ByteArray.empty t305 0))) (ds := []) #[false, false, false, false, false, false, false, false, false, false] (by kernel_rfl) rfl rfl (hx309_0) (fun hHeld => ?_)
        generalize wr.drew = w29 at zF zE zC HB hx309_0 hHeld ⊢
        refine pu 1 46 rfl rfl (by kernel_rfl) (fun _ _ _ _ h => h) (by rfl) ⟨_, _, fun w' => by go_simp; rfl, by simp only [pt, ps, p0, p1, zr, zt]; rfl, ?_⟩
        refine pu 2 47 rfl rfl (by kernel_rfl) (fun _ _ _ _ h => h) (by rfl) ⟨_, _, fun w' => by go_simp; rfl, by simp only [pt, ps, p0, p1, zr, zt]; rfl, ?_⟩
        refine ta 3 48 rfl rfl (by kernel_rfl) (fun _ _ _ _ h => h) (by rfl) hHeld ⟨_, _, by intro w' s0; go_simp; rfl, by simp only [pt, ps, p0, p1, zr, zt]; rfl, ?_⟩
        refine one_ (i := 0) (N := some 45) #[true, true, true, true, false, false, false, false, false, false] rfl rfl (by kernel_rfl) (by decide) (fun K hK => ?_)
        refine goes_ Tryd.func78 (by kernel_rfl) rfl #[] (by rfl) rfl rfl (by (try simp only [List.map_toArray, List.map_cons, List.map_nil]); first | done | rfl) ?_
        refine (parsers_c _).mono ?_
        rintro e w30 ⟨gm_, m_, rfl, HMS_, HMP_, hb⟩
        have HS0_ := (hb.cell (World.block_lt_of_cell? _ _ (hHeld))).trans (hHeld)
        refine ⟨_, rfl, ?_⟩
        have n0_ := Aside0.mk (Kd.R_below (RL zF.out) hb)
        have n1_ := Aside0.mk (Kd.R_below (RL zE.out) hb)
        have n2_ := Aside0.mk (zp (g := zD) (o := .cells #[.int .i64 x305000_1, .slice none 0 0, .bool x305002_1, .string x305003_1, .slice none 0 0] 66 (0, 0)) (BL zC.out) hb)
        have n3_ := Aside0.mk (zm (by repeat (first | (with_reducible first | exact HB.out | apply zh | apply zd | apply zi | refine zl ?_ zJ.out) | exact HB.out)) hb)
        clear zF
        clear zE
        clear zC
        clear HB
        have zF := n0_
        have zE := n1_
        have zC := n2_
        have HB := n3_
        clear n0_ n1_ n2_ n3_
        (try clear hb)
        (try clear hb2)
        (try clear hk)
        (try clear hi)
        obtain ⟨v_, f_, hgk_, hgf_, hpk_⟩ := prs_known A25.out HMP_
        have hlk_ := prs_some HMS_ hgk_
        have HF_ := Aside0.mk hgf_
        have HPK_ := Aside0.mk hpk_
        clear hgk_ hgf_ hpk_ HMP_ HMS_
        refine hK.out _ _ HS0_ (fun hHeld => ?_)
        clear hK K
        refine norm_ (a' := ?_) ?_ ?_
        rotate_left
        ·show Act.put _ (some 45) _ = _
         simp only [pt, ps, p0, p1, zr, zt]
         rfl
        refine one_ (i := 4) (N := some 49) #[true, true, true, true, true, false, false, false, false, false] rfl rfl (by kernel_rfl) (by decide) (fun K hK => ?_)
        refine value_ (w1 := ?_) (v := ?_) (by rfl) rfl ?_ ?_
        rotate_left 2
        ·go_simp
         constructor
         ·rfl
         ·rfl
        refine hK.out _ _ hHeld (fun hHeld => ?_)
        clear hK K
        refine norm_ (a' := ?_) ?_ ?_
        rotate_left
        ·show Act.put _ (some 49) _ = _
         simp only [pt, ps, p0, p1, zr, zt]
         rfl
        refine pu 5 44 rfl rfl (by kernel_rfl) (fun _ _ _ _ h => h) (by rfl) ⟨_, _, fun w' => by go_simp; rfl, by simp only [pt, ps, p0, p1, zr, zt]; rfl, ?_⟩
        refine pu 6 50 rfl rfl (by kernel_rfl) (fun _ _ _ _ h => h) (by rfl) ⟨_, _, fun w' => by go_simp; rfl, by simp only [pt, ps, p0, p1, zr, zt]; rfl, ?_⟩
        refine pu 7 51 rfl rfl (by kernel_rfl) (fun _ _ _ _ h => h) (by rfl) ⟨_, _, fun w' => by go_simp; rfl, by simp only [pt, ps, p0, p1, zr, zt]; rfl, ?_⟩
        refine pu 8 7 rfl rfl (by kernel_rfl) (fun _ _ _ _ h => h) (by rfl) ⟨_, _, fun w' => by go_simp; rfl, by simp only [pt, ps, p0, p1, zr, zt]; rfl, ?_⟩
        refine pu 9 8 rfl rfl (by kernel_rfl) (fun _ _ _ _ h => h) (by rfl) ⟨_, _, fun w' => by go_simp; rfl, by simp only [pt, ps, p0, p1, zr, zt]; rfl, ?_⟩
        refine done_ (by kernel_rfl) ?_
        try go_wp2_with (first | ((with_reducible refine zu (N := 58) rfl ?_); obtain ⟨g_, bound_, hv_, hen_, hpc_⟩ := HPK_.out; refine dynL_ (some 58) rfl rfl (g := g_) (bound := bound_) #[.slice (some ad309) t305.length co9] rfl hv_ (by (try simp only [List.map_toArray, List.map_cons, List.map_nil]); first | done | rfl) hen_ ?_; clear hv_ hen_; obtain ⟨hf_, hl1_⟩ := prs_by HF_.out A27.out; refine (hpc_ _ _ _ _ _ _ _ _ _ _ _ ?ck_ ?side1 ?side2 hl1_ hf_).mono ?_; clear hpc_ hf_ hl1_; (case ck_ => exact fun _ _ h_ => h_); (case side1 => repeat (first | exact (Kd.R_reads' zF.out).2.2 | (with_reducible refine Kd.C_alloc ?_ _) | (with_reducible refine Kd.C_drewN ?_ _) | (with_reducible refine Kd.C_drew ?_))); (case side2 => exact (Kd.R_reads' zF.out).2.1); rintro e w31 ⟨v313, v318, rfl, zN, zab, hb⟩; refine ⟨_, rfl, ?_⟩; have n0_ := Aside0.mk (Kd.R_below (RL zF.out) hb); have n1_ := Aside0.mk (Kd.R_below (RL zE.out) hb); have n2_ := Aside0.mk (Kd.R_lower zN (zn (by exact bl HB.out))); have n3_ := Aside0.mk (Kd.R_lower zab (zn (by exact bl HB.out))); have n4_ := Aside0.mk (zp (g := zD) (o := .cells #[.int .i64 x305000_1, .slice none 0 0, .bool x305002_1, .string x305003_1, .slice none 0 0] 66 (0, 0)) (BL zC.out) hb); have n5_ := Aside0.mk (zm (by exact bl HB.out) hb); clear zF; clear zE; clear zC; clear HB; have zF := n0_; have zE := n1_; have zK := n2_; have zL := n3_; have zC := n4_; have HB := n5_; clear n0_ n1_ n2_ n3_ n4_ n5_; (try clear hb); (try clear hb2); (try clear hk); (try clear hi); (try clear zN); (try clear zab)) | ((with_reducible refine zu (N := 9) rfl ?_); refine zz ?hg (N := 9) ?hd (cs := #[.int .i64 0, .slice none 0 0, .bool false, .string (⟨#[]⟩ : ByteArray), .slice none 0 0]) (t := 66) ?hr ?_; (case hd => rfl); (case hg => rfl); (case hr => first | (go_simp; done) | (go_simp; rfl)); intro zG hg w32 hbox hb; have n0_ := Aside0.mk (Kd.R_below (RL zF.out) hb); have n1_ := Aside0.mk (Kd.R_below (RL zE.out) hb); have n2_ := Aside0.mk (Kd.R_below (RL zK.out) hb); have n3_ := Aside0.mk (Kd.R_below (RL zL.out) hb); have n4_ := Aside0.mk (zp (g := zD) (o := .cells #[.int .i64 x305000_1, .slice none 0 0, .bool x305002_1, .string x305003_1, .slice none 0 0] 66 (0, 0)) (BL zC.out) hb); have n5_ := Aside0.mk (zm (by exact bl HB.out) hb); have n6_ := Aside0.mk (hbox); have n7_ := Aside0.mk ((by rw [hg]; exact (zn (by exact bl HB.out)) : w.heap.size ≤ zG)); have n8_ := Aside0.mk ((by rw [hg]; exact (zn (by exact bl HB.out)) : w.heap.size ≤ zG)); have n9_ := Aside0.mk ((by rw [hg]; exact Nat.ne_of_lt (zB (g := zD) (o := .cells #[.int .i64 x305000_1, .slice none 0 0, .bool x305002_1, .string x305003_1, .slice none 0 0] 66 (0, 0)) (BL zC.out)) : zD ≠ zG)); have n10_ := Aside0.mk ((by rw [hg]; exact Nat.ne_of_gt (zB (g := zD) (o := .cells #[.int .i64 x305000_1, .slice none 0 0, .bool x305002_1, .string x305003_1, .slice none 0 0] 66 (0, 0)) (BL zC.out)) : zG ≠ zD)); clear zF; clear zE; clear zK; clear zL; clear zC; clear HB; have zF := n0_; have zE := n1_; have zK := n2_; have zL := n3_; have zC := n4_; have HB := n5_; have zI := n6_; have GW321 := n7_; have zP := n8_; have zH := n9_; have zM := n10_; clear n0_ n1_ n2_ n3_ n4_ n5_ n6_ n7_ n8_ n9_ n10_; clear hb hbox hg; have zDc := zM.out; have zEc := zH.out; have zFb : w32.cell? ⟨zG, 0, none⟩ = some (.int .i64 0) := (zc zI.out 0).trans rfl; have zGb : w32.cell? ⟨zG, 1, none⟩ = some (.slice none 0 0) := (zc zI.out 1).trans rfl; have zHb : w32.cell? ⟨zG, 2, none⟩ = some (.bool false) := (zc zI.out 2).trans rfl; have zIb : w32.cell? ⟨zG, 3, none⟩ = some (.string (⟨#[]⟩ : ByteArray)) := (zc zI.out 3).trans rfl; have zJb : w32.cell? ⟨zG, 4, none⟩ = some (.slice none 0 0) := (zc zI.out 4).trans rfl; have zKb := zb zI.out 0; have zLb := zb zI.out 1; have zMb := zb zI.out 2; have zNb := zb zI.out 3; have zOb := zb zI.out 4; obtain ⟨Ao35, co35, eo35⟩ := Kd.R_slice zK.out; subst eo35; obtain ⟨Ao36, co36, eo36⟩ := Kd.R_slice zL.out; subst eo36; have zPb : w32.cell? ⟨zD, 0, none⟩ = some (.int .i64 x305000_1) := (zc zC.out 0).trans rfl; have zQb : w32.cell? ⟨zD, 1, none⟩ = some (.slice none 0 0) := (zc zC.out 1).trans rfl; have zRb : w32.cell? ⟨zD, 2, none⟩ = some (.bool x305002_1) := (zc zC.out 2).trans rfl; have zSb : w32.cell? ⟨zD, 3, none⟩ = some (.string x305003_1) := (zc zC.out 3).trans rfl; have zTb : w32.cell? ⟨zD, 4, none⟩ = some (.slice none 0 0) := (zc zC.out 4).trans rfl; have zUb := zb zC.out 0; have zVb := zb zC.out 1; have zWb := zb zC.out 2; have zXb := zb zC.out 3; have zYb := zb zC.out 4))
        refine bodyPost_ret (results_cell_row rfl _ _ zD 66 #[.int .i64 t311, .slice Ao35 t312.length co35, .bool t315, .string t316, .slice Ao36 t317.length co36] (0, 0) _ rfl (by (with_reducible repeat (first | refine zf ?_ _ | refine zj ?_ | refine ze ?_ _)); refine zx (cs := #[.int .i64 t311, .slice Ao35 t312.length co35, .bool t315, .string t316, .slice none 0 0]) ?_ 4 _ rfl; (with_reducible repeat (first | refine zf ?_ _ | refine zj ?_ | refine ze ?_ _)); refine zx (cs := #[.int .i64 t311, .slice Ao35 t312.length co35, .bool t315, .string x305003_1, .slice none 0 0]) ?_ 3 _ rfl; (with_reducible repeat (first | refine zf ?_ _ | refine zj ?_ | refine ze ?_ _)); refine zx (cs := #[.int .i64 t311, .slice Ao35 t312.length co35, .bool x305002_1, .string x305003_1, .slice none 0 0]) ?_ 2 _ rfl; (with_reducible repeat (first | refine zf ?_ _ | refine zj ?_ | refine ze ?_ _)); refine zx (cs := #[.int .i64 t311, .slice none 0 0, .bool x305002_1, .string x305003_1, .slice none 0 0]) ?_ 1 _ rfl; (with_reducible repeat (first | refine zf ?_ _ | refine zj ?_ | refine ze ?_ _)); refine zx (cs := #[.int .i64 x305000_1, .slice none 0 0, .bool x305002_1, .string x305003_1, .slice none 0 0]) ?_ 0 _ rfl; (with_reducible repeat (first | refine zf ?_ _ | refine zj ?_ | refine ze ?_ _)); refine zq ?_ zH.out _; (with_reducible repeat (first | refine zf ?_ _ | refine zj ?_ | refine ze ?_ _)); refine zq ?_ zH.out _; (with_reducible repeat (first | refine zf ?_ _ | refine zj ?_ | refine ze ?_ _)); refine zq ?_ zH.out _; (with_reducible repeat (first | refine zf ?_ _ | refine zj ?_ | refine ze ?_ _)); refine zq ?_ zH.out _; (with_reducible repeat (first | refine zf ?_ _ | refine zj ?_ | refine ze ?_ _)); refine zq ?_ zH.out _; (with_reducible repeat (first | refine zf ?_ _ | refine zj ?_ | refine ze ?_ _)); exact zC.out) Tryd.underlying66 rfl (by kernel_rfl)) rfl ?_
        exact ⟨_, _, by first | rfl | (simp [*] <;> rfl), RL (Kd.R_mono (Kd.R_far (p := ⟨zD, 4, none⟩) (Kd.R_far (p := ⟨zD, 3, none⟩) (Kd.R_far (p := ⟨zD, 2, none⟩) (Kd.R_far (p := ⟨zD, 1, none⟩) (Kd.R_far (p := ⟨zD, 0, none⟩) (Kd.R_far (p := ⟨zG, 4, none⟩) (Kd.R_far (p := ⟨zG, 3, none⟩) (Kd.R_far (p := ⟨zG, 2, none⟩) (Kd.R_far (p := ⟨zG, 1, none⟩) (Kd.R_far (p := ⟨zG, 0, none⟩) (Kd.R_types (Kd.R_types zK.out zI.out (by decide)) zC.out (by decide)) (fun _ hk => hk.1.2) (.int .i64 t311)) (fun _ hk => hk.1.2) (.slice Ao35 t312.length co35)) (fun _ hk => hk.1.2) (.bool t315)) (fun _ hk => hk.1.2) (.string t316)) (fun _ hk => hk.1.2) (.slice Ao36 t317.length co36)) (fun _ hk => hk.2) (.int .i64 t311)) (fun _ hk => hk.2) (.slice Ao35 t312.length co35)) (fun _ hk => hk.2) (.bool t315)) (fun _ hk => hk.2) (.string t316)) (fun _ hk => hk.2) (.slice Ao36 t317.length co36)) (fun _ hk => trivial)), RL (Kd.R_mono (Kd.R_far (p := ⟨zD, 4, none⟩) (Kd.R_far (p := ⟨zD, 3, none⟩) (Kd.R_far (p := ⟨zD, 2, none⟩) (Kd.R_far (p := ⟨zD, 1, none⟩) (Kd.R_far (p := ⟨zD, 0, none⟩) (Kd.R_far (p := ⟨zG, 4, none⟩) (Kd.R_far (p := ⟨zG, 3, none⟩) (Kd.R_far (p := ⟨zG, 2, none⟩) (Kd.R_far (p := ⟨zG, 1, none⟩) (Kd.R_far (p := ⟨zG, 0, none⟩) (Kd.R_types (Kd.R_types zL.out zI.out (by decide)) zC.out (by decide)) (fun _ hk => hk.1.2) (.int .i64 t311)) (fun _ hk => hk.1.2) (.slice Ao35 t312.length co35)) (fun _ hk => hk.1.2) (.bool t315)) (fun _ hk => hk.1.2) (.string t316)) (fun _ hk => hk.1.2) (.slice Ao36 t317.length co36)) (fun _ hk => hk.2) (.int .i64 t311)) (fun _ hk => hk.2) (.slice Ao35 t312.length co35)) (fun _ hk => hk.2) (.bool t315)) (fun _ hk => hk.2) (.string t316)) (fun _ hk => hk.2) (.slice Ao36 t317.length co36)) (fun _ hk => trivial)), by repeat (first | (with_reducible first | exact HB.out | apply zh | apply zd | apply zi | refine zl ?_ zJ.out | refine zl ?_ zP.out) | exact HB.out)⟩
       ·replace c28 := Bool.eq_false_iff.mpr c28
        subst c28
        rw [if_neg (show ¬ (false = true) by decide)] at H
        simp only [Option.some.injEq, Prod.mk.injEq] at H
        obtain ⟨rfl, rfl, rfl, rfl, rfl⟩ := H
        try go_wp2
        have n0_ := Aside0.mk (Kd.R_drew zF.out)
        have n1_ := Aside0.mk (Kd.R_drew zE.out)
        have n2_ := Aside0.mk (zj zC.out)
        have n3_ := Aside0.mk (zi HB.out)
        clear zF
        clear zE
        clear zC
        clear HB
        have zF := n0_
        have zE := n1_
        have zC := n2_
        have HB := n3_
        clear n0_ n1_ n2_ n3_
        have p309 : 0 ≤ (0 : Int) := (by omega)
        have q309 : 0 < (t305.length : Int) := of_decide_eq_true (by with_reducible assumption)
        obtain ⟨ad309, e309, hx309_0⟩ := Kd.at_string (Kd.R_reads' zF.out).2.2 0 p309 q309
        cases e309
        have qi309 : (0 < t305.length) = True := eq_true (by omega)
        (try rw [show ((0 : Int)).toNat = 0 from rfl] at hx309_0)
        (try rw [Addr.add_zero'] at hx309_0)
        replace p309 := eq_true p309
        replace q309 := eq_true q309
        have hmf : ∀ (fn : Fn) (first cap : Array Value) (w : World), (Instr.makeFunc fn first cap).run Tryd.prog w = .ok (.func fn first cap) w := fun _ _ _ _ => rfl
        refine start_ (n := 10) (S := fun w' => w'.cell? ad309 = some (.string (rdOf ByteArray.empty t305 0))) (ds := []) #[false, false, false, false, false, false, false, false, false, false] (by kernel_rfl) rfl rfl (hx309_0) (fun hHeld => ?_)
        generalize wr.drew = w38 at zF zE zC HB hx309_0 hHeld ⊢
        refine pu 1 46 rfl rfl (by kernel_rfl) (fun _ _ _ _ h => h) (by rfl) ⟨_, _, fun w' => by go_simp; rfl, by simp only [pt, ps, p0, p1, zr, zt]; rfl, ?_⟩
        refine pu 2 47 rfl rfl (by kernel_rfl) (fun _ _ _ _ h => h) (by rfl) ⟨_, _, fun w' => by go_simp; rfl, by simp only [pt, ps, p0, p1, zr, zt]; rfl, ?_⟩
        refine ta 3 48 rfl rfl (by kernel_rfl) (fun _ _ _ _ h => h) (by rfl) hHeld ⟨_, _, by intro w' s0; go_simp; rfl, by simp only [pt, ps, p0, p1, zr, zt]; rfl, ?_⟩
        refine one_ (i := 0) (N := some 45) #[true, true, true, true, false, false, false, false, false, false] rfl rfl (by kernel_rfl) (by decide) (fun K hK => ?_)
        refine goes_ Tryd.func78 (by kernel_rfl) rfl #[] (by rfl) rfl rfl (by (try simp only [List.map_toArray, List.map_cons, List.map_nil]); first | done | rfl) ?_
        refine (parsers_c _).mono ?_
        rintro e w39 ⟨gm_, m_, rfl, HMS_, HMP_, hb⟩
        have HS0_ := (hb.cell (World.block_lt_of_cell? _ _ (hHeld))).trans (hHeld)
        refine ⟨_, rfl, ?_⟩
        have n0_ := Aside0.mk (Kd.R_below (RL zF.out) hb)
        have n1_ := Aside0.mk (Kd.R_below (RL zE.out) hb)
        have n2_ := Aside0.mk (zp (g := zD) (o := .cells #[.int .i64 x305000_1, .slice none 0 0, .bool x305002_1, .string x305003_1, .slice none 0 0] 66 (0, 0)) (BL zC.out) hb)
        have n3_ := Aside0.mk (zm (by repeat (first | (with_reducible first | exact HB.out | apply zh | apply zd | apply zi | refine zl ?_ zJ.out) | exact HB.out)) hb)
        clear zF
        clear zE
        clear zC
        clear HB
        have zF := n0_
        have zE := n1_
        have zC := n2_
        have HB := n3_
        clear n0_ n1_ n2_ n3_
        (try clear hb)
        (try clear hb2)
        (try clear hk)
        (try clear hi)
        obtain ⟨v_, f_, hgk_, hgf_, hpk_⟩ := prs_known A25.out HMP_
        have hlk_ := prs_some HMS_ hgk_
        have HF_ := Aside0.mk hgf_
        have HPK_ := Aside0.mk hpk_
        clear hgk_ hgf_ hpk_ HMP_ HMS_
        refine hK.out _ _ HS0_ (fun hHeld => ?_)
        clear hK K
        refine norm_ (a' := ?_) ?_ ?_
        rotate_left
        ·show Act.put _ (some 45) _ = _
         simp only [pt, ps, p0, p1, zr, zt]
         rfl
        refine one_ (i := 4) (N := some 49) #[true, true, true, true, true, false, false, false, false, false] rfl rfl (by kernel_rfl) (by decide) (fun K hK => ?_)
        refine value_ (w1 := ?_) (v := ?_) (by rfl) rfl ?_ ?_
        rotate_left 2
        ·go_simp
         constructor
         ·rfl
         ·rfl
        refine hK.out _ _ hHeld (fun hHeld => ?_)
        clear hK K
        refine norm_ (a' := ?_) ?_ ?_
        rotate_left
        ·show Act.put _ (some 49) _ = _
         simp only [pt, ps, p0, p1, zr, zt]
         rfl
        refine pu 5 44 rfl rfl (by kernel_rfl) (fun _ _ _ _ h => h) (by rfl) ⟨_, _, fun w' => by go_simp; rfl, by simp only [pt, ps, p0, p1, zr, zt]; rfl, ?_⟩
        refine pu 6 50 rfl rfl (by kernel_rfl) (fun _ _ _ _ h => h) (by rfl) ⟨_, _, fun w' => by go_simp; rfl, by simp only [pt, ps, p0, p1, zr, zt]; rfl, ?_⟩
        refine pu 7 51 rfl rfl (by kernel_rfl) (fun _ _ _ _ h => h) (by rfl) ⟨_, _, fun w' => by go_simp; rfl, by simp only [pt, ps, p0, p1, zr, zt]; rfl, ?_⟩
        refine pu 8 7 rfl rfl (by kernel_rfl) (fun _ _ _ _ h => h) (by rfl) ⟨_, _, fun w' => by go_simp; rfl, by simp only [pt, ps, p0, p1, zr, zt]; rfl, ?_⟩
        refine pu 9 8 rfl rfl (by kernel_rfl) (fun _ _ _ _ h => h) (by rfl) ⟨_, _, fun w' => by go_simp; rfl, by simp only [pt, ps, p0, p1, zr, zt]; rfl, ?_⟩
        refine done_ (by kernel_rfl) ?_
        try go_wp2_with (first | ((with_reducible refine zu (N := 58) rfl ?_); obtain ⟨g_, bound_, hv_, hen_, hpc_⟩ := HPK_.out; refine dynL_ (some 58) rfl rfl (g := g_) (bound := bound_) #[.slice (some ad309) t305.length co9] rfl hv_ (by (try simp only [List.map_toArray, List.map_cons, List.map_nil]); first | done | rfl) hen_ ?_; clear hv_ hen_; obtain ⟨hf_, hl1_⟩ := prs_by HF_.out A27.out; refine (hpc_ _ _ _ _ _ _ _ _ _ _ _ ?ck_ ?side1 ?side2 hl1_ hf_).mono ?_; clear hpc_ hf_ hl1_; (case ck_ => exact fun _ _ h_ => h_); (case side1 => repeat (first | exact (Kd.R_reads' zF.out).2.2 | (with_reducible refine Kd.C_alloc ?_ _) | (with_reducible refine Kd.C_drewN ?_ _) | (with_reducible refine Kd.C_drew ?_))); (case side2 => exact (Kd.R_reads' zF.out).2.1); rintro e w40 ⟨v313, v318, rfl, zN, zab, hb⟩; refine ⟨_, rfl, ?_⟩; have n0_ := Aside0.mk (Kd.R_below (RL zF.out) hb); have n1_ := Aside0.mk (Kd.R_below (RL zE.out) hb); have n2_ := Aside0.mk (Kd.R_lower zN (zn (by exact bl HB.out))); have n3_ := Aside0.mk (Kd.R_lower zab (zn (by exact bl HB.out))); have n4_ := Aside0.mk (zp (g := zD) (o := .cells #[.int .i64 x305000_1, .slice none 0 0, .bool x305002_1, .string x305003_1, .slice none 0 0] 66 (0, 0)) (BL zC.out) hb); have n5_ := Aside0.mk (zm (by exact bl HB.out) hb); clear zF; clear zE; clear zC; clear HB; have zF := n0_; have zE := n1_; have zK := n2_; have zL := n3_; have zC := n4_; have HB := n5_; clear n0_ n1_ n2_ n3_ n4_ n5_; (try clear hb); (try clear hb2); (try clear hk); (try clear hi); (try clear zN); (try clear zab)) | ((with_reducible refine zu (N := 9) rfl ?_); refine zz ?hg (N := 9) ?hd (cs := #[.int .i64 0, .slice none 0 0, .bool false, .string (⟨#[]⟩ : ByteArray), .slice none 0 0]) (t := 66) ?hr ?_; (case hd => rfl); (case hg => rfl); (case hr => first | (go_simp; done) | (go_simp; rfl)); intro zG hg w41 hbox hb; have n0_ := Aside0.mk (Kd.R_below (RL zF.out) hb); have n1_ := Aside0.mk (Kd.R_below (RL zE.out) hb); have n2_ := Aside0.mk (Kd.R_below (RL zK.out) hb); have n3_ := Aside0.mk (Kd.R_below (RL zL.out) hb); have n4_ := Aside0.mk (zp (g := zD) (o := .cells #[.int .i64 x305000_1, .slice none 0 0, .bool x305002_1, .string x305003_1, .slice none 0 0] 66 (0, 0)) (BL zC.out) hb); have n5_ := Aside0.mk (zm (by exact bl HB.out) hb); have n6_ := Aside0.mk (hbox); have n7_ := Aside0.mk ((by rw [hg]; exact (zn (by exact bl HB.out)) : w.heap.size ≤ zG)); have n8_ := Aside0.mk ((by rw [hg]; exact (zn (by exact bl HB.out)) : w.heap.size ≤ zG)); have n9_ := Aside0.mk ((by rw [hg]; exact Nat.ne_of_lt (zB (g := zD) (o := .cells #[.int .i64 x305000_1, .slice none 0 0, .bool x305002_1, .string x305003_1, .slice none 0 0] 66 (0, 0)) (BL zC.out)) : zD ≠ zG)); have n10_ := Aside0.mk ((by rw [hg]; exact Nat.ne_of_gt (zB (g := zD) (o := .cells #[.int .i64 x305000_1, .slice none 0 0, .bool x305002_1, .string x305003_1, .slice none 0 0] 66 (0, 0)) (BL zC.out)) : zG ≠ zD)); clear zF; clear zE; clear zK; clear zL; clear zC; clear HB; have zF := n0_; have zE := n1_; have zK := n2_; have zL := n3_; have zC := n4_; have HB := n5_; have zI := n6_; have GW321 := n7_; have zP := n8_; have zH := n9_; have zM := n10_; clear n0_ n1_ n2_ n3_ n4_ n5_ n6_ n7_ n8_ n9_ n10_; clear hb hbox hg; have zFc := zM.out; have zGc := zH.out; have zZb : w41.cell? ⟨zG, 0, none⟩ = some (.int .i64 0) := (zc zI.out 0).trans rfl; have zac : w41.cell? ⟨zG, 1, none⟩ = some (.slice none 0 0) := (zc zI.out 1).trans rfl; have zbc : w41.cell? ⟨zG, 2, none⟩ = some (.bool false) := (zc zI.out 2).trans rfl; have zcc : w41.cell? ⟨zG, 3, none⟩ = some (.string (⟨#[]⟩ : ByteArray)) := (zc zI.out 3).trans rfl; have zdc : w41.cell? ⟨zG, 4, none⟩ = some (.slice none 0 0) := (zc zI.out 4).trans rfl; have zec := zb zI.out 0; have zfc := zb zI.out 1; have zgc := zb zI.out 2; have zhc := zb zI.out 3; have zic := zb zI.out 4; obtain ⟨Ao44, co44, eo44⟩ := Kd.R_slice zK.out; subst eo44; obtain ⟨Ao45, co45, eo45⟩ := Kd.R_slice zL.out; subst eo45; have zjc : w41.cell? ⟨zD, 0, none⟩ = some (.int .i64 x305000_1) := (zc zC.out 0).trans rfl; have zkc : w41.cell? ⟨zD, 1, none⟩ = some (.slice none 0 0) := (zc zC.out 1).trans rfl; have zlc : w41.cell? ⟨zD, 2, none⟩ = some (.bool x305002_1) := (zc zC.out 2).trans rfl; have zmc : w41.cell? ⟨zD, 3, none⟩ = some (.string x305003_1) := (zc zC.out 3).trans rfl; have znc : w41.cell? ⟨zD, 4, none⟩ = some (.slice none 0 0) := (zc zC.out 4).trans rfl; have zoc := zb zC.out 0; have zpc := zb zC.out 1; have zqc := zb zC.out 2; have zrc := zb zC.out 3; have zsc := zb zC.out 4))
        refine bodyPost_ret (results_cell_row rfl _ _ zD 66 #[.int .i64 0, .slice none 0 0, .bool false, .string (⟨#[]⟩ : ByteArray), .slice none 0 0] (0, 0) _ rfl (by (with_reducible repeat (first | refine zf ?_ _ | refine zj ?_ | refine ze ?_ _)); refine zx (cs := #[.int .i64 0, .slice none 0 0, .bool false, .string (⟨#[]⟩ : ByteArray), .slice none 0 0]) ?_ 4 _ rfl; (with_reducible repeat (first | refine zf ?_ _ | refine zj ?_ | refine ze ?_ _)); refine zx (cs := #[.int .i64 0, .slice none 0 0, .bool false, .string x305003_1, .slice none 0 0]) ?_ 3 _ rfl; (with_reducible repeat (first | refine zf ?_ _ | refine zj ?_ | refine ze ?_ _)); refine zx (cs := #[.int .i64 0, .slice none 0 0, .bool x305002_1, .string x305003_1, .slice none 0 0]) ?_ 2 _ rfl; (with_reducible repeat (first | refine zf ?_ _ | refine zj ?_ | refine ze ?_ _)); refine zx (cs := #[.int .i64 0, .slice none 0 0, .bool x305002_1, .string x305003_1, .slice none 0 0]) ?_ 1 _ rfl; (with_reducible repeat (first | refine zf ?_ _ | refine zj ?_ | refine ze ?_ _)); refine zx (cs := #[.int .i64 x305000_1, .slice none 0 0, .bool x305002_1, .string x305003_1, .slice none 0 0]) ?_ 0 _ rfl; (with_reducible repeat (first | refine zf ?_ _ | refine zj ?_ | refine ze ?_ _)); refine zq ?_ zH.out _; (with_reducible repeat (first | refine zf ?_ _ | refine zj ?_ | refine ze ?_ _)); refine zq ?_ zH.out _; (with_reducible repeat (first | refine zf ?_ _ | refine zj ?_ | refine ze ?_ _)); refine zq ?_ zH.out _; (with_reducible repeat (first | refine zf ?_ _ | refine zj ?_ | refine ze ?_ _)); refine zq ?_ zH.out _; (with_reducible repeat (first | refine zf ?_ _ | refine zj ?_ | refine ze ?_ _)); refine zq ?_ zH.out _; (with_reducible repeat (first | refine zf ?_ _ | refine zj ?_ | refine ze ?_ _)); exact zC.out) Tryd.underlying66 rfl (by kernel_rfl)) rfl ?_
        exact ⟨_, _, by first | rfl | (simp [*] <;> rfl), by first | exact Kd.R_nil _ _ _ _ _ | exact Kd.N_nil _ _ _ _ _ | exact Kd.V_nil _ _ _ _ _ | exact Kd.Q_nil _ _ _ _ _ | exact Kd.S_nil _ _ _ _ _, by first | exact Kd.R_nil _ _ _ _ _ | exact Kd.N_nil _ _ _ _ _ | exact Kd.V_nil _ _ _ _ _ | exact Kd.Q_nil _ _ _ _ _ | exact Kd.S_nil _ _ _ _ _, by repeat (first | (with_reducible first | exact HB.out | apply zh | apply zd | apply zi | refine zl ?_ zJ.out | refine zl ?_ zP.out) | exact HB.out)⟩
      ·replace c26 := Bool.eq_false_iff.mpr c26
       subst c26
       rw [if_neg (show ¬ (false = true) by decide)] at H
       simp only [Option.some.injEq, Prod.mk.injEq] at H
       obtain ⟨rfl, rfl, rfl, rfl, rfl⟩ := H
       try go_wp2
       have n0_ := Aside0.mk (Kd.R_drew zF.out)
       have n1_ := Aside0.mk (Kd.R_drew zE.out)
       have n2_ := Aside0.mk (zj zC.out)
       have n3_ := Aside0.mk (zi HB.out)
       clear zF
       clear zE
       clear zC
       clear HB
       have zF := n0_
       have zE := n1_
       have zC := n2_
       have HB := n3_
       clear n0_ n1_ n2_ n3_
       have p309 : 0 ≤ (0 : Int) := (by omega)
       have q309 : 0 < (t305.length : Int) := of_decide_eq_true (by with_reducible assumption)
       obtain ⟨ad309, e309, hx309_0⟩ := Kd.at_string (Kd.R_reads' zF.out).2.2 0 p309 q309
       cases e309
       have qi309 : (0 < t305.length) = True := eq_true (by omega)
       (try rw [show ((0 : Int)).toNat = 0 from rfl] at hx309_0)
       (try rw [Addr.add_zero'] at hx309_0)
       replace p309 := eq_true p309
       replace q309 := eq_true q309
       have hmf : ∀ (fn : Fn) (first cap : Array Value) (w : World), (Instr.makeFunc fn first cap).run Tryd.prog w = .ok (.func fn first cap) w := fun _ _ _ _ => rfl
       refine start_ (n := 10) (S := fun w' => w'.cell? ad309 = some (.string (rdOf ByteArray.empty t305 0))) (ds := []) #[false, false, false, false, false, false, false, false, false, false] (by kernel_rfl) rfl rfl (hx309_0) (fun hHeld => ?_)
       generalize wr.drew = w47 at zF zE zC HB hx309_0 hHeld ⊢
       refine pu 1 46 rfl rfl (by kernel_rfl) (fun _ _ _ _ h => h) (by rfl) ⟨_, _, fun w' => by go_simp; rfl, by simp only [pt, ps, p0, p1, zr, zt]; rfl, ?_⟩
       refine pu 2 47 rfl rfl (by kernel_rfl) (fun _ _ _ _ h => h) (by rfl) ⟨_, _, fun w' => by go_simp; rfl, by simp only [pt, ps, p0, p1, zr, zt]; rfl, ?_⟩
       refine ta 3 48 rfl rfl (by kernel_rfl) (fun _ _ _ _ h => h) (by rfl) hHeld ⟨_, _, by intro w' s0; go_simp; rfl, by simp only [pt, ps, p0, p1, zr, zt]; rfl, ?_⟩
       refine one_ (i := 0) (N := some 45) #[true, true, true, true, false, false, false, false, false, false] rfl rfl (by kernel_rfl) (by decide) (fun K hK => ?_)
       refine goes_ Tryd.func78 (by kernel_rfl) rfl #[] (by rfl) rfl rfl (by (try simp only [List.map_toArray, List.map_cons, List.map_nil]); first | done | rfl) ?_
       refine (parsers_c _).mono ?_
       rintro e w48 ⟨gm_, m_, rfl, HMS_, HMP_, hb⟩
       have HS0_ := (hb.cell (World.block_lt_of_cell? _ _ (hHeld))).trans (hHeld)
       refine ⟨_, rfl, ?_⟩
       have n0_ := Aside0.mk (Kd.R_below (RL zF.out) hb)
       have n1_ := Aside0.mk (Kd.R_below (RL zE.out) hb)
       have n2_ := Aside0.mk (zp (g := zD) (o := .cells #[.int .i64 x305000_1, .slice none 0 0, .bool x305002_1, .string x305003_1, .slice none 0 0] 66 (0, 0)) (BL zC.out) hb)
       have n3_ := Aside0.mk (zm (by repeat (first | (with_reducible first | exact HB.out | apply zh | apply zd | apply zi | refine zl ?_ zJ.out) | exact HB.out)) hb)
       clear zF
       clear zE
       clear zC
       clear HB
       have zF := n0_
       have zE := n1_
       have zC := n2_
       have HB := n3_
       clear n0_ n1_ n2_ n3_
       (try clear hb)
       (try clear hb2)
       (try clear hk)
       (try clear hi)
       have hlk_ := prs_none HMS_ (prs_unknown A25.out HMP_)
       clear HMP_ HMS_
       refine hK.out _ _ HS0_ (fun hHeld => ?_)
       clear hK K
       refine norm_ (a' := ?_) ?_ ?_
       rotate_left
       ·show Act.put _ (some 45) _ = _
        simp only [pt, ps, p0, p1, zr, zt]
        rfl
       refine one_ (i := 4) (N := some 49) #[true, true, true, true, true, false, false, false, false, false] rfl rfl (by kernel_rfl) (by decide) (fun K hK => ?_)
       refine value_ (w1 := ?_) (v := ?_) (by rfl) rfl ?_ ?_
       rotate_left 2
       ·go_simp
        constructor
        ·rfl
        ·rfl
       refine hK.out _ _ hHeld (fun hHeld => ?_)
       clear hK K
       refine norm_ (a' := ?_) ?_ ?_
       rotate_left
       ·show Act.put _ (some 49) _ = _
        simp only [pt, ps, p0, p1, zr, zt]
        rfl
       refine pu 5 44 rfl rfl (by kernel_rfl) (fun _ _ _ _ h => h) (by rfl) ⟨_, _, fun w' => by go_simp; rfl, by simp only [pt, ps, p0, p1, zr, zt]; rfl, ?_⟩
       refine pu 6 50 rfl rfl (by kernel_rfl) (fun _ _ _ _ h => h) (by rfl) ⟨_, _, fun w' => by go_simp; rfl, by simp only [pt, ps, p0, p1, zr, zt]; rfl, ?_⟩
       refine pu 7 51 rfl rfl (by kernel_rfl) (fun _ _ _ _ h => h) (by rfl) ⟨_, _, fun w' => by go_simp; rfl, by simp only [pt, ps, p0, p1, zr, zt]; rfl, ?_⟩
       refine pu 8 7 rfl rfl (by kernel_rfl) (fun _ _ _ _ h => h) (by rfl) ⟨_, _, fun w' => by go_simp; rfl, by simp only [pt, ps, p0, p1, zr, zt]; rfl, ?_⟩
       refine pu 9 8 rfl rfl (by kernel_rfl) (fun _ _ _ _ h => h) (by rfl) ⟨_, _, fun w' => by go_simp; rfl, by simp only [pt, ps, p0, p1, zr, zt]; rfl, ?_⟩
       refine done_ (by kernel_rfl) ?_
       have ztc : w48.cell? ⟨zD, 0, none⟩ = some (.int .i64 x305000_1) := (zc zC.out 0).trans rfl
       have zuc : w48.cell? ⟨zD, 1, none⟩ = some (.slice none 0 0) := (zc zC.out 1).trans rfl
       have zvc : w48.cell? ⟨zD, 2, none⟩ = some (.bool x305002_1) := (zc zC.out 2).trans rfl
       have zwc : w48.cell? ⟨zD, 3, none⟩ = some (.string x305003_1) := (zc zC.out 3).trans rfl
       have zxc : w48.cell? ⟨zD, 4, none⟩ = some (.slice none 0 0) := (zc zC.out 4).trans rfl
       have zyc := zb zC.out 0
       have zzc := zb zC.out 1
       have zAc := zb zC.out 2
       have zBc := zb zC.out 3
       have zCc := zb zC.out 4
       try go_wp2
       refine bodyPost_ret (results_cell_row rfl _ _ zD 66 #[.int .i64 0, .slice none 0 0, .bool false, .string (⟨#[]⟩ : ByteArray), .slice none 0 0] (0, 0) _ rfl (bfin (by (repeat (first | (with_reducible first | refine zf ?_ _ | refine zj ?_ | refine ze ?_ _) | apply zA)); exact zC.out) (by rfl)) Tryd.underlying66 rfl (by kernel_rfl)) rfl ?_
       exact ⟨_, _, by first | rfl | (simp [*] <;> rfl), by first | exact Kd.R_nil _ _ _ _ _ | exact Kd.N_nil _ _ _ _ _ | exact Kd.V_nil _ _ _ _ _ | exact Kd.Q_nil _ _ _ _ _ | exact Kd.S_nil _ _ _ _ _, by first | exact Kd.R_nil _ _ _ _ _ | exact Kd.N_nil _ _ _ _ _ | exact Kd.V_nil _ _ _ _ _ | exact Kd.Q_nil _ _ _ _ _ | exact Kd.S_nil _ _ _ _ _, by repeat (first | (with_reducible first | exact HB.out | apply zh | apply zd | apply zi | refine zl ?_ zJ.out) | exact HB.out)⟩
     ·rw [if_neg c24] at H
      exact absurd H (by simp)

def laws_eqOp.f (a0_0 : Int) (a0_1 : ByteArray) (a0_2 : ByteArray) (a0_3 : Int) (a0_4 : Bool) (a1_0 : Int) (a1_1 : ByteArray) (a1_2 : ByteArray) (a1_3 : Int) (a1_4 : Bool) : Option (Bool) := if a0_0 = a1_0 then (if a0_1.toList = a1_1.toList then (if a0_2.toList = a1_2.toList then (if a0_3 = a1_3 then (if (a0_4 != a1_4) = true then none else (some true)) else none) else none) else none) else none
set_option maxHeartbeats 8000000 in
set_option maxRecDepth 100000 in
theorem laws_eqOp.calls (a0_0 : Int) (a0_1 : ByteArray) (a0_2 : ByteArray) (a0_3 : Int) (a0_4 : Bool) (a1_0 : Int) (a1_1 : ByteArray) (a1_2 : ByteArray) (a1_3 : Int) (a1_4 : Bool) (r : Bool) (w : World) (h : laws_eqOp.f a0_0 a0_1 a0_2 a0_3 a0_4 a1_0 a1_1 a1_2 a1_3 a1_4 = some r) :
  Calls Tryd.prog 144 #[.agg #[.int .i64 a0_0, .string a0_1, .string a0_2, .int .i64 a0_3, .bool a0_4], .agg #[.int .i64 a1_0, .string a1_1, .string a1_2, .int .i64 a1_3, .bool a1_4]] w fun e w' => e = .returned (.bool r) ∧ Below w.heap.size w w' := by
 have hu124 := Tryd.underlying124
 have HB := Aside0.mk (Below.refl w.heap.size w)
 have H : (if a0_0 = a1_0 then (if a0_1.toList = a1_1.toList then (if a0_2.toList = a1_2.toList then (if a0_3 = a1_3 then (if (a0_4 != a1_4) = true then none else (some true)) else none) else none) else none) else none) = some r := h
 clear h
 by_cases c3 : a0_0 = a1_0
 ·rw [if_pos c3] at H
  have c3b0 : (a0_0 == a1_0) = true := beq_iff_eq.mpr c3
  have c3b1 : (a0_0 != a1_0) = false := bne_eq_false_iff_eq.mpr c3
  clear c3
  by_cases c4 : a0_1.toList = a1_1.toList
  ·rw [if_pos c4] at H
   have c4b0 : (a0_1.toList == a1_1.toList) = true := beq_iff_eq.mpr c4
   have c4b1 : (a0_1.toList != a1_1.toList) = false := bne_eq_false_iff_eq.mpr c4
   clear c4
   by_cases c5 : a0_2.toList = a1_2.toList
   ·rw [if_pos c5] at H
    have c5b0 : (a0_2.toList == a1_2.toList) = true := beq_iff_eq.mpr c5
    have c5b1 : (a0_2.toList != a1_2.toList) = false := bne_eq_false_iff_eq.mpr c5
    clear c5
    by_cases c6 : a0_3 = a1_3
    ·rw [if_pos c6] at H
     have c6b0 : (a0_3 == a1_3) = true := beq_iff_eq.mpr c6
     have c6b1 : (a0_3 != a1_3) = false := bne_eq_false_iff_eq.mpr c6
     clear c6
     by_cases c7 : (a0_4 != a1_4) = true
     ·rw [if_pos c7] at H
      have c7b0 : (a0_4 != a1_4) = true := c7
      (try (have c7b1 : decide (a0_4 = a1_4) = false := by simpa using c7))
      (try (have c7b2 : (a0_4 == a1_4) = false := by simpa using c7))
      (try (have c7b3 : ¬ (a0_4 = a1_4) := by simpa using c7))
      clear c7
      exact absurd H (by simp)
     ·rw [if_neg c7] at H
      have c7b0 : (a0_4 != a1_4) = false := by simpa using c7
      (try (have c7b1 : decide (a0_4 = a1_4) = true := by simpa using c7))
      (try (have c7b2 : (a0_4 == a1_4) = true := by simpa using c7))
      clear c7
      obtain rfl := Option.some.inj H
      go_enter Tryd.func144, Tryd.ntmps144
      go_wp2_with (first | ((with_reducible refine zu (N := 2) rfl ?_); refine zz ?hg (N := 2) ?hd (cs := #[.int .i64 a0_0, .string a0_1, .string a0_2, .int .i64 a0_3, .bool a0_4]) (t := 124) ?hr ?_; (case hd => rfl); (case hg => rfl); (case hr => first | (go_simp; done) | (go_simp; rfl)); intro zD hg w13 hbox hb; have n0_ := Aside0.mk (zm (by exact bl HB.out) hb); have n1_ := Aside0.mk (hbox); have n2_ := Aside0.mk ((by rw [hg]; exact (zn (by exact bl HB.out)) : w.heap.size ≤ zD)); have n3_ := Aside0.mk ((by rw [hg]; exact (zn (by exact bl HB.out)) : w.heap.size ≤ zD)); clear HB; have HB := n0_; have zC := n1_; have GW322 := n2_; have zI := n3_; clear n0_ n1_ n2_ n3_; clear hb hbox hg) | ((with_reducible refine zu (N := 3) rfl ?_); refine zz ?hg (N := 3) ?hd (cs := #[.int .i64 a1_0, .string a1_1, .string a1_2, .int .i64 a1_3, .bool a1_4]) (t := 124) ?hr ?_; (case hd => rfl); (case hg => rfl); (case hr => first | (go_simp; done) | (go_simp; rfl)); intro zF hg w14 hbox hb; have n0_ := Aside0.mk (zp (g := zD) (o := .cells #[.int .i64 a0_0, .string a0_1, .string a0_2, .int .i64 a0_3, .bool a0_4] 124 (0, 0)) (BL zC.out) hb); have n1_ := Aside0.mk (zm (by exact bl HB.out) hb); have n2_ := Aside0.mk (hbox); have n3_ := Aside0.mk ((by rw [hg]; exact (zn (by exact bl HB.out)) : w.heap.size ≤ zF)); have n4_ := Aside0.mk ((by rw [hg]; exact (zn (by exact bl HB.out)) : w.heap.size ≤ zF)); have n5_ := Aside0.mk ((by rw [hg]; exact Nat.ne_of_lt (zB (g := zD) (o := .cells #[.int .i64 a0_0, .string a0_1, .string a0_2, .int .i64 a0_3, .bool a0_4] 124 (0, 0)) (BL zC.out)) : zD ≠ zF)); have n6_ := Aside0.mk ((by rw [hg]; exact Nat.ne_of_gt (zB (g := zD) (o := .cells #[.int .i64 a0_0, .string a0_1, .string a0_2, .int .i64 a0_3, .bool a0_4] 124 (0, 0)) (BL zC.out)) : zF ≠ zD)); clear zC; clear HB; have zC := n0_; have HB := n1_; have zE := n2_; have GW323 := n3_; have zJ := n4_; have zG := n5_; have zH := n6_; clear n0_ n1_ n2_ n3_ n4_ n5_ n6_; clear hb hbox hg; have zeb := zG.out; have zfb := zH.out; have zK : w14.cell? ⟨zD, 0, none⟩ = some (.int .i64 a0_0) := (zc zC.out 0).trans rfl; have zL : w14.cell? ⟨zD, 1, none⟩ = some (.string a0_1) := (zc zC.out 1).trans rfl; have zM : w14.cell? ⟨zD, 2, none⟩ = some (.string a0_2) := (zc zC.out 2).trans rfl; have zN : w14.cell? ⟨zD, 3, none⟩ = some (.int .i64 a0_3) := (zc zC.out 3).trans rfl; have zO : w14.cell? ⟨zD, 4, none⟩ = some (.bool a0_4) := (zc zC.out 4).trans rfl; have zP := zb zC.out 0; have zQ := zb zC.out 1; have zR := zb zC.out 2; have zS := zb zC.out 3; have zT := zb zC.out 4; have zU : w14.cell? ⟨zF, 0, none⟩ = some (.int .i64 a1_0) := (zc zE.out 0).trans rfl; have zV : w14.cell? ⟨zF, 1, none⟩ = some (.string a1_1) := (zc zE.out 1).trans rfl; have zW : w14.cell? ⟨zF, 2, none⟩ = some (.string a1_2) := (zc zE.out 2).trans rfl; have zX : w14.cell? ⟨zF, 3, none⟩ = some (.int .i64 a1_3) := (zc zE.out 3).trans rfl; have zY : w14.cell? ⟨zF, 4, none⟩ = some (.bool a1_4) := (zc zE.out 4).trans rfl; have zZ := zb zE.out 0; have zab := zb zE.out 1; have zbb := zb zE.out 2; have zcb := zb zE.out 3; have zdb := zb zE.out 4))
      go_ret
      exact ⟨by first | rfl | (simp [*] <;> rfl), by repeat (first | (with_reducible first | exact HB.out | apply zh | apply zd | apply zi | refine zl ?_ zI.out | refine zl ?_ zJ.out) | exact HB.out)⟩
    ·rw [if_neg c6] at H
     have c6b0 : (a0_3 == a1_3) = false := beq_eq_false_iff_ne.mpr c6
     have c6b1 : (a0_3 != a1_3) = true := bne_iff_ne.mpr c6
     exact absurd H (by simp)
   ·rw [if_neg c5] at H
    have c5b0 : (a0_2.toList == a1_2.toList) = false := beq_eq_false_iff_ne.mpr c5
    have c5b1 : (a0_2.toList != a1_2.toList) = true := bne_iff_ne.mpr c5
    exact absurd H (by simp)
  ·rw [if_neg c4] at H
   have c4b0 : (a0_1.toList == a1_1.toList) = false := beq_eq_false_iff_ne.mpr c4
   have c4b1 : (a0_1.toList != a1_1.toList) = true := bne_iff_ne.mpr c4
   exact absurd H (by simp)
 ·rw [if_neg c3] at H
  have c3b0 : (a0_0 == a1_0) = false := beq_eq_false_iff_ne.mpr c3
  have c3b1 : (a0_0 != a1_0) = true := bne_iff_ne.mpr c3
  exact absurd H (by simp)
def laws_eqOpS.l0 : Nat → List (S124) → List (S124) → Int → Option (Bool)
 | 0, _, _, _ => none
 | k + 1, x0, x1, x5 => if x5 < (x0.length : Int) then (if 0 ≤ x5 then (if x5 < (x1.length : Int) then ((laws_eqOp.f ((rd_T124 x0 x5).f0) ((rd_T124 x0 x5).f1) ((rd_T124 x0 x5).f2) ((rd_T124 x0 x5).f3) ((rd_T124 x0 x5).f4) ((rd_T124 x1 x5).f0) ((rd_T124 x1 x5).f1) ((rd_T124 x1 x5).f2) ((rd_T124 x1 x5).f3) ((rd_T124 x1 x5).f4)).bind fun t326 => (if t326 = true then (laws_eqOpS.l0 k x0 x1 (wrap64 (x5 + 1))) else none)) else (none)) else (none)) else (some true)
def laws_eqOpS.f (k : Nat) (l0 : List (S124)) (l1 : List (S124)) : Option (Bool) := if (l0.length : Int) = (l1.length : Int) then (laws_eqOpS.l0 k l0 l1 0) else none
theorem laws_eqOpS.mono_l : ∀ k, (∀ y0 y1 y2, LeO (laws_eqOpS.l0 k y0 y1 y2) (laws_eqOpS.l0 (k + 1) y0 y1 y2))
 | 0 => fun _ _ _ r h => by simp [laws_eqOpS.l0] at h
 | k + 1 => by
  have ih0 := laws_eqOpS.mono_l k
  ·intro y0 y1 y2
   unfold laws_eqOpS.l0
   repeat' first
   | (with_reducible exact ih0 _ _ _)
   | (with_reducible exact LeO.refl _)
   | (with_reducible exact LeO.none _)
   | (with_reducible refine LeO.ite ?_ ?_)
   | (with_reducible refine LeO.bind ?_ (fun _ => ?_))
   | exact ih0 _ _ _
   | exact LeO.none _
   | refine LeO.ite ?_ ?_
   | refine LeO.bind ?_ (fun _ => ?_)
theorem laws_eqOpS.mono : ∀ a0 a1 k, LeO (laws_eqOpS.f k a0 a1) (laws_eqOpS.f (k + 1) a0 a1) := by
 intro a0 a1 k
 have ih0 := laws_eqOpS.mono_l k
 unfold laws_eqOpS.f
 repeat' first
   | (with_reducible exact ih0 _ _ _)
   | (with_reducible exact LeO.refl _)
   | (with_reducible exact LeO.none _)
   | (with_reducible refine LeO.ite ?_ ?_)
   | (with_reducible refine LeO.bind ?_ (fun _ => ?_))
   | exact ih0 _ _ _
   | exact LeO.none _
   | refine LeO.ite ?_ ?_
   | refine LeO.bind ?_ (fun _ => ?_)
def laws_eqOpS.T6 : Bool × List (List Nat × List Nat) := (true, [([], []), ([], []), ([0, 1], [0, 1]), ([2], [2]), ([], []), ([], []), ([4, 5], [4, 5]), ([6], [6]), ([3, 7], [3, 7]), ([8], [8])])
def laws_eqOpS.B6 : List Nat := [0, 0, 3, 7, 0, 0, 48, 112, 255, 511]
theorem laws_eqOpS.tab6 : rtab .any (opsOf Tryd.f120 6) = laws_eqOpS.T6 := by kernel_rfl
theorem laws_eqOpS.bits6 : waitsOk laws_eqOpS.T6.2 laws_eqOpS.B6 = true := by kernel_rfl
set_option maxHeartbeats 8000000 in
set_option maxRecDepth 100000 in
theorem laws_eqOpS.calls (k : Nat) (A0 : Option Addr) (c0 : Nat) (l0 : List (S124)) (A1 : Option Addr) (c1 : Nat) (l1 : List (S124)) (r : Bool) (w : World) (hr0 : Kd.C k124 w A0 l0.length l0) (hc0 : l0.length ≤ c0) (hr1 : Kd.C k124 w A1 l1.length l1) (hc1 : l1.length ≤ c1) (h : laws_eqOpS.f k l0 l1 = some r) :
  Calls Tryd.prog 120 #[.slice A0 l0.length c0, .slice A1 l1.length c1] w fun e w' => e = .returned (.bool r) ∧ Below w.heap.size w w' := by
 have hu124 := Tryd.underlying124
 have HR0 := Aside0.mk hr0
 have HC0 := Aside0.mk hc0
 clear hr0 hc0
 have HR1 := Aside0.mk hr1
 have HC1 := Aside0.mk hc1
 clear hr1 hc1
 have HB := Aside0.mk (Below.refl w.heap.size w)
 have H : (if (l0.length : Int) = (l1.length : Int) then (laws_eqOpS.l0 k l0 l1 0) else none) = some r := h
 clear h
 by_cases c3 : (l0.length : Int) = (l1.length : Int)
 ·rw [if_pos c3] at H
  have c3b0 : ((l0.length : Int) == (l1.length : Int)) = true := beq_iff_eq.mpr c3
  have c3b1 : ((l0.length : Int) != (l1.length : Int)) = false := bne_eq_false_iff_eq.mpr c3
  have c3b2 : (l0.length == l1.length) = true := by first | simpa using c3 | (simp at c3 ⊢; omega)
  clear c3
  have H' := Aside0.mk H
  clear H
  go_enter Tryd.func120, Tryd.ntmps120
  go_wp2
  go_loopg [5] k (fun kq v5 w' => ∃ (x5_1 : Int), v5 = .int .i64 x5_1 ∧ Aside0 (laws_eqOpS.l0 kq l0 l1 x5_1 = some r) ∧ Aside0 (kq ≤ k) ∧ Aside0 (Below w.heap.size w w'))
  case atStart => exact ⟨(0), (by first | rfl | (simp [*]; done)), H', ⟨Nat.le_refl _⟩, ⟨by repeat (first | (with_reducible first | exact HB.out | apply zh | apply zd | apply zi) | exact HB.out)⟩⟩
  case round =>
   clear H'
   try clear c1
   try clear p2
   try clear c3
   try clear c3b0
   try clear c3b1
   try clear c3b2
   obtain ⟨x5_1, rfl, HA, HK1, HB⟩ := hrel
   cases gk with
   | zero => exact absurd HA.out (by simp [laws_eqOpS.l0])
   | succ k1 =>
    have H := HA.out
    clear HA
    simp only [laws_eqOpS.l0] at H
    by_cases c4 : x5_1 < (l0.length : Int)
    ·rw [if_pos c4] at H
     have c4b0 : decide (x5_1 < (l0.length : Int)) = true := decide_eq_true c4
     clear c4
     by_cases c5 : 0 ≤ x5_1
     ·rw [if_pos c5] at H
      have c5b0 : decide (0 ≤ x5_1) = true := decide_eq_true c5
      clear c5
      by_cases c6 : x5_1 < (l1.length : Int)
      ·rw [if_pos c6] at H
       have c6b0 : decide (x5_1 < (l1.length : Int)) = true := decide_eq_true c6
       clear c6
       replace H := Option.bind_eq_some_iff.mp H
       obtain ⟨t326, A70, H⟩ := H
       try dsimp only at H
       have A7 := Aside0.mk A70
       clear A70
       by_cases c8 : t326 = true
       ·subst c8
        rw [if_pos rfl] at H
        have H' := Aside0.mk H
        clear H
        try go_wp2
        have n0_ := Aside0.mk (zi HB.out)
        clear HB
        have HB := n0_
        clear n0_
        have p324 : 0 ≤ (x5_1 : Int) := of_decide_eq_true (by with_reducible assumption)
        have q324 : x5_1 < (l0.length : Int) := of_decide_eq_true (by with_reducible assumption)
        obtain ⟨ad324, e324, hx324_0, hx324_1, hx324_2, hx324_3, hx324_4⟩ := at_T124 HR0.out x5_1 p324 q324
        have hw324_4 := hx324_4
        have hw324_3 := hx324_3
        have hw324_2 := hx324_2
        have hw324_1 := hx324_1
        have hw324_0 := hx324_0
        cases e324
        replace hx324_0 := zk HB.out hx324_0
        replace hx324_1 := zk HB.out hx324_1
        replace hx324_2 := zk HB.out hx324_2
        replace hx324_3 := zk HB.out hx324_3
        replace hx324_4 := zk HB.out hx324_4
        replace p324 := eq_true p324
        replace q324 := eq_true q324
        have p325 : 0 ≤ (x5_1 : Int) := of_decide_eq_true (by with_reducible assumption)
        have q325 : x5_1 < (l1.length : Int) := of_decide_eq_true (by with_reducible assumption)
        obtain ⟨ad325, e325, hx325_0, hx325_1, hx325_2, hx325_3, hx325_4⟩ := at_T124 HR1.out x5_1 p325 q325
        have hw325_4 := hx325_4
        have hw325_3 := hx325_3
        have hw325_2 := hx325_2
        have hw325_1 := hx325_1
        have hw325_0 := hx325_0
        cases e325
        replace hx325_0 := zk HB.out hx325_0
        replace hx325_1 := zk HB.out hx325_1
        replace hx325_2 := zk HB.out hx325_2
        replace hx325_3 := zk HB.out hx325_3
        replace hx325_4 := zk HB.out hx325_4
        replace p325 := eq_true p325
        replace q325 := eq_true q325
        refine start_ (n := 10) (S := fun w' => e124r w' (ad324.add ((x5_1).toNat * 5)) (rd_T124 l0 x5_1) (e124 w' (ad325.add ((x5_1).toNat * 5)) (rd_T124 l1 x5_1))) (ds := []) #[false, false, false, false, false, false, false, false, false, false] (by kernel_rfl) rfl rfl ⟨(zk HB.out hw324_0), (zk HB.out hw324_1), (zk HB.out hw324_2), (zk HB.out hw324_3), (zk HB.out hw324_4), (zk HB.out hw325_0), (zk HB.out hw325_1), (zk HB.out hw325_2), (zk HB.out hw325_3), (zk HB.out hw325_4)⟩ (fun hHeld => ?_); refine with_tabW laws_eqOpS.tab6 laws_eqOpS.bits6 (fun HT_ HW_ => ?_)
        generalize wr.drew = w9 at HB hx324_0 hx324_1 hx324_2 hx324_3 hx324_4 hx325_0 hx325_1 hx325_2 hx325_3 hx325_4 hHeld ⊢
        refine pu 0 17 rfl rfl (any_of HT_.out (by kernel_rfl)) (fun _ _ _ _ h => h) (by rfl) ⟨_, _, fun w' => by go_simp; rfl, by simp only [pt, ps, p0, p1, zr, zt]; rfl, ?_⟩
        refine pu 1 18 rfl rfl (any_of HT_.out (by kernel_rfl)) (fun _ _ _ _ h => h) (by rfl) ⟨_, _, fun w' => by go_simp; rfl, by simp only [pt, ps, p0, p1, zr, zt]; rfl, ?_⟩
        refine pu 2 19 rfl rfl (any_of HT_.out (by kernel_rfl)) (fun _ _ _ _ h => h) (by rfl) ⟨_, _, fun w' => by go_simp; rfl, by simp only [pt, ps, p0, p1, zr, zt]; rfl, ?_⟩
        refine pu 4 21 rfl rfl (any_of HT_.out (by kernel_rfl)) (fun _ _ _ _ h => h) (by rfl) ⟨_, _, fun w' => by go_simp; rfl, by simp only [pt, ps, p0, p1, zr, zt]; rfl, ?_⟩
        refine pu 5 22 rfl rfl (any_of HT_.out (by kernel_rfl)) (fun _ _ _ _ h => h) (by rfl) ⟨_, _, fun w' => by go_simp; rfl, by simp only [pt, ps, p0, p1, zr, zt]; rfl, ?_⟩
        refine pu 6 23 rfl rfl (any_of HT_.out (by kernel_rfl)) (fun _ _ _ _ h => h) (by rfl) ⟨_, _, fun w' => by go_simp; rfl, by simp only [pt, ps, p0, p1, zr, zt]; rfl, ?_⟩
        refine ta 3 20 rfl rfl (take_ofW HT_.out HW_.out (by kernel_rfl)) (fun _ _ _ _ h => h) (by rfl) hHeld ⟨_, _, by rintro w' ⟨s0, s1, s2, s3, s4, s5, s6, s7, s8, s9⟩; go_simp; rfl, by simp only [pt, ps, p0, p1, zr, zt]; rfl, ?_⟩
        refine ta 7 24 rfl rfl (take_ofW HT_.out HW_.out (by kernel_rfl)) (fun _ _ _ _ h => h) (by rfl) hHeld ⟨_, _, by rintro w' ⟨s0, s1, s2, s3, s4, s5, s6, s7, s8, s9⟩; go_simp; rfl, by simp only [pt, ps, p0, p1, zr, zt]; rfl, ?_⟩
        refine one_ (i := 8) (N := some 25) #[true, true, true, true, true, true, true, true, true, false] rfl rfl (one_of HT_.out (by kernel_rfl)) (by decide) (fun K hK => ?_)
        refine goes_ Tryd.func144 (by kernel_rfl) rfl #[.agg #[.int .i64 ((rd_T124 l0 x5_1).f0), .string ((rd_T124 l0 x5_1).f1), .string ((rd_T124 l0 x5_1).f2), .int .i64 ((rd_T124 l0 x5_1).f3), .bool ((rd_T124 l0 x5_1).f4)], .agg #[.int .i64 ((rd_T124 l1 x5_1).f0), .string ((rd_T124 l1 x5_1).f1), .string ((rd_T124 l1 x5_1).f2), .int .i64 ((rd_T124 l1 x5_1).f3), .bool ((rd_T124 l1 x5_1).f4)]] (by rfl) rfl rfl (by (try simp only [List.map_toArray, List.map_cons, List.map_nil]); first | done | rfl) ?_
        with_reducible refine (laws_eqOp.calls ((rd_T124 l0 x5_1).f0) ((rd_T124 l0 x5_1).f1) ((rd_T124 l0 x5_1).f2) ((rd_T124 l0 x5_1).f3) ((rd_T124 l0 x5_1).f4) ((rd_T124 l1 x5_1).f0) ((rd_T124 l1 x5_1).f1) ((rd_T124 l1 x5_1).f2) ((rd_T124 l1 x5_1).f3) ((rd_T124 l1 x5_1).f4) true _ A7.out).mono ?_
        rintro e w10 ⟨rfl, hb⟩
        refine ⟨_, rfl, ?_⟩
        have n0_ := Aside0.mk (zm (by repeat (first | (with_reducible first | exact HB.out | apply zh | apply zd | apply zi) | exact HB.out)) hb)
        clear HB
        have HB := n0_
        clear n0_
        (try clear hb)
        (try clear hb2)
        (try clear hk)
        (try clear hi)
        refine hK.out _ _ ⟨(zk HB.out hw324_0), (zk HB.out hw324_1), (zk HB.out hw324_2), (zk HB.out hw324_3), (zk HB.out hw324_4), (zk HB.out hw325_0), (zk HB.out hw325_1), (zk HB.out hw325_2), (zk HB.out hw325_3), (zk HB.out hw325_4)⟩ (fun hHeld => ?_)
        clear hK K
        refine norm_ (a' := ?_) ?_ ?_
        rotate_left
        ·show Act.put _ (some 25) _ = _
         simp only [pt, ps, p0, p1, zr, zt]
         rfl
        refine pu 9 26 rfl rfl (any_of HT_.out (by kernel_rfl)) (fun _ _ _ _ h => h) (by rfl) ⟨_, _, fun w' => by go_simp; rfl, by simp only [pt, ps, p0, p1, zr, zt]; rfl, ?_⟩
        refine done_ (done_of HT_.out (by kernel_rfl)) ?_
        try go_wp2
        go_roundg k1
        case measure => have := HK1.out; omega
        case rel => exact ⟨(wrap64 (x5_1 + 1)), (by first | rfl | (simp [*]; done)), H', ⟨by have := HK1.out; omega⟩, ⟨by repeat (first | (with_reducible first | exact HB.out | apply zh | apply zd | apply zi) | exact HB.out)⟩⟩
       ·replace c8 := Bool.eq_false_iff.mpr c8
        subst c8
        rw [if_neg (show ¬ (false = true) by decide)] at H
        exact absurd H (by simp)
      ·rw [if_neg c6] at H
       exact absurd H (by simp)
     ·rw [if_neg c5] at H
      exact absurd H (by simp)
    ·rw [if_neg c4] at H
     have c4b0 : decide (x5_1 < (l0.length : Int)) = false := decide_eq_false c4
     clear c4
     obtain rfl := Option.some.inj H
     go_wp2
     go_ret
     exact ⟨by first | rfl | (simp [*] <;> rfl), by repeat (first | (with_reducible first | exact HB.out | apply zh | apply zd | apply zi) | exact HB.out)⟩
 ·rw [if_neg c3] at H
  have c3b0 : ((l0.length : Int) == (l1.length : Int)) = false := beq_eq_false_iff_ne.mpr c3
  have c3b1 : ((l0.length : Int) != (l1.length : Int)) = true := bne_iff_ne.mpr c3
  have c3b2 : (l0.length == l1.length) = false := by first | simpa using c3 | (simp at c3 ⊢; omega)
  exact absurd H (by simp)
def laws_eqRequest.f (k : Nat) (l0_0 : List (S124)) (l1_0 : List (S124)) : Option (Bool) := (laws_eqOpS.f k l0_0 l1_0).bind fun t329 => (if t329 = true then (some true) else none)
theorem laws_eqRequest.mono : ∀ a0 a1 k, LeO (laws_eqRequest.f k a0 a1) (laws_eqRequest.f (k + 1) a0 a1) := by
 intro a0 a1 k
 unfold laws_eqRequest.f
 repeat' first
   | (with_reducible exact laws_eqOpS.mono _ _ _)
   | (with_reducible exact LeO.refl _)
   | (with_reducible exact LeO.none _)
   | (with_reducible refine LeO.ite ?_ ?_)
   | (with_reducible refine LeO.bind ?_ (fun _ => ?_))
   | exact laws_eqOpS.mono _ _ _
   | exact LeO.none _
   | refine LeO.ite ?_ ?_
   | refine LeO.bind ?_ (fun _ => ?_)
set_option maxHeartbeats 8000000 in
set_option maxRecDepth 100000 in
theorem laws_eqRequest.calls (k : Nat) (A0_0 : Option Addr) (c0_0 : Nat) (l0_0 : List (S124)) (A1_0 : Option Addr) (c1_0 : Nat) (l1_0 : List (S124)) (r : Bool) (w : World) (hr0_0 : Kd.C k124 w A0_0 l0_0.length l0_0) (hc0_0 : l0_0.length ≤ c0_0) (hr1_0 : Kd.C k124 w A1_0 l1_0.length l1_0) (hc1_0 : l1_0.length ≤ c1_0) (h : laws_eqRequest.f k l0_0 l1_0 = some r) :
  Calls Tryd.prog 79 #[.agg #[.slice A0_0 l0_0.length c0_0], .agg #[.slice A1_0 l1_0.length c1_0]] w fun e w' => e = .returned (.bool r) ∧ Below w.heap.size w w' := by
 have hu63 := Tryd.underlying63
 have HR0_0 := Aside0.mk hr0_0
 have HC0_0 := Aside0.mk hc0_0
 clear hr0_0 hc0_0
 have HR1_0 := Aside0.mk hr1_0
 have HC1_0 := Aside0.mk hc1_0
 clear hr1_0 hc1_0
 have HB := Aside0.mk (Below.refl w.heap.size w)
 have H : ((laws_eqOpS.f k l0_0 l1_0).bind fun t329 => (if t329 = true then (some true) else none)) = some r := h
 clear h
 replace H := Option.bind_eq_some_iff.mp H
 obtain ⟨t329, A30, H⟩ := H
 try dsimp only at H
 have A3 := Aside0.mk A30
 clear A30
 by_cases c4 : t329 = true
 ·subst c4
  rw [if_pos rfl] at H
  obtain rfl := Option.some.inj H
  go_enter Tryd.func79, Tryd.ntmps79
  go_wp2_with (first | ((with_reducible refine zu (N := 2) rfl ?_); refine zz ?hg (N := 2) ?hd (cs := #[.slice A0_0 l0_0.length c0_0]) (t := 63) ?hr ?_; (case hd => rfl); (case hg => rfl); (case hr => first | (go_simp; done) | (go_simp; rfl)); intro zD hg w5 hbox hb; have n0_ := Aside0.mk (zm (by exact bl HB.out) hb); have n1_ := Aside0.mk (hbox); have n2_ := Aside0.mk ((by rw [hg]; exact (zn (by exact bl HB.out)) : w.heap.size ≤ zD)); have n3_ := Aside0.mk ((by rw [hg]; exact (zn (by exact bl HB.out)) : w.heap.size ≤ zD)); clear HB; have HB := n0_; have zC := n1_; have GW327 := n2_; have zI := n3_; clear n0_ n1_ n2_ n3_; clear hb hbox hg) | ((with_reducible refine zu (N := 3) rfl ?_); refine zz ?hg (N := 3) ?hd (cs := #[.slice A1_0 l1_0.length c1_0]) (t := 63) ?hr ?_; (case hd => rfl); (case hg => rfl); (case hr => first | (go_simp; done) | (go_simp; rfl)); intro zE hg w6 hbox hb; have n0_ := Aside0.mk (zp (g := zD) (o := .cells #[.slice A0_0 l0_0.length c0_0] 63 (0, 0)) (BL zC.out) hb); have n1_ := Aside0.mk (zm (by exact bl HB.out) hb); have n2_ := Aside0.mk (hbox); have n3_ := Aside0.mk ((by rw [hg]; exact (zn (by exact bl HB.out)) : w.heap.size ≤ zE)); have n4_ := Aside0.mk ((by rw [hg]; exact (zn (by exact bl HB.out)) : w.heap.size ≤ zE)); have n5_ := Aside0.mk ((by rw [hg]; exact Nat.ne_of_lt (zB (g := zD) (o := .cells #[.slice A0_0 l0_0.length c0_0] 63 (0, 0)) (BL zC.out)) : zD ≠ zE)); have n6_ := Aside0.mk ((by rw [hg]; exact Nat.ne_of_gt (zB (g := zD) (o := .cells #[.slice A0_0 l0_0.length c0_0] 63 (0, 0)) (BL zC.out)) : zE ≠ zD)); clear zC; clear HB; have zC := n0_; have HB := n1_; have zF := n2_; have GW328 := n3_; have zJ := n4_; have zG := n5_; have zH := n6_; clear n0_ n1_ n2_ n3_ n4_ n5_ n6_; clear hb hbox hg; have zO := zG.out; have zP := zH.out; have zK : w6.cell? ⟨zD, 0, none⟩ = some (.slice A0_0 l0_0.length c0_0) := (zc zC.out 0).trans rfl; have zL := zb zC.out 0; have zM : w6.cell? ⟨zE, 0, none⟩ = some (.slice A1_0 l1_0.length c1_0) := (zc zF.out 0).trans rfl; have zN := zb zF.out 0) | ((with_reducible refine zo (f := 120) rfl ?_); refine zy (some 9) rfl rfl Tryd.func120 (by kernel_rfl) rfl #[.slice A0_0 l0_0.length c0_0, .slice A1_0 l1_0.length c1_0] rfl (by (try simp only [List.map_toArray, List.map_cons, List.map_nil]); first | done | rfl) ?_; (with_reducible refine (laws_eqOpS.calls k _ _ l0_0 _ _ l1_0 true _ ?side1 ?side2 ?side3 ?side4 A3.out).mono ?_); (case side1 => repeat (first | exact (Kd.C_below HR0_0.out HB.out) | (with_reducible refine Kd.C_alloc ?_ _) | (with_reducible refine Kd.C_drewN ?_ _) | (with_reducible refine Kd.C_drew ?_))); (case side2 => exact HC0_0.out); (case side3 => repeat (first | exact (Kd.C_below HR1_0.out HB.out) | (with_reducible refine Kd.C_alloc ?_ _) | (with_reducible refine Kd.C_drewN ?_ _) | (with_reducible refine Kd.C_drew ?_))); (case side4 => exact HC1_0.out); rintro e w10 ⟨rfl, hb⟩; refine ⟨_, rfl, ?_⟩; have n0_ := Aside0.mk (zp (g := zD) (o := .cells #[.slice A0_0 l0_0.length c0_0] 63 (0, 0)) (BL zC.out) hb); have n1_ := Aside0.mk (zp (g := zE) (o := .cells #[.slice A1_0 l1_0.length c1_0] 63 (0, 0)) (BL zF.out) hb); have n2_ := Aside0.mk (zm (by exact bl HB.out) hb); clear zC; clear zF; clear HB; have zC := n0_; have zF := n1_; have HB := n2_; clear n0_ n1_ n2_; (try clear hb); (try clear hb2); (try clear hk); (try clear hi)))
  go_ret
  exact ⟨by first | rfl | (simp [*] <;> rfl), by repeat (first | (with_reducible first | exact HB.out | apply zh | apply zd | apply zi | refine zl ?_ zI.out | refine zl ?_ zJ.out) | exact HB.out)⟩
 ·replace c4 := Bool.eq_false_iff.mpr c4
  subst c4
  rw [if_neg (show ¬ (false = true) by decide)] at H
  exact absurd H (by simp)
end Go.Proofs.YtfiojiokmkiflaaDoor.GFnExactParseLine
