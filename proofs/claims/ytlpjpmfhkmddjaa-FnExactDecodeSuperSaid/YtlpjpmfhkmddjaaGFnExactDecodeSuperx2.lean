/- Written by give.py, a program of this session, that runs the kit's print and lays contracts proved by hand beside it. -/
import Derived.Test.YtlpjpmfhkmddjaaGFnExactDecodeSuperx0
import Derived.Test.YtlpjpmfhkmddjaaGFnExactDecodeSuperx1
namespace Go.Proofs.Ytlpjpmfhkmddjaa.GFnExactDecodeSuper
open Go.RowKit Go.Proofs.YtlpjpmfhkmddjaaW.PrintWords Go.Proofs.YtlpjpmfhkmddjaaW.PrintLast Go.Proofs.YtlpjpmfhkmddjaaW.PrintMore
attribute [local go_sem] max2_int min2_int max_two min_two max_three min_three max_four min_four Go.Proofs.YtlpjpmfhkmddjaaH.str_leq Go.Proofs.YtlpjpmfhkmddjaaH.str_geq Go.Proofs.YtlpjpmfhkmddjaaH.str_gtr   -- for this text's walks alone
set_option linter.unusedVariables false
set_option linter.unusedSimpArgs false

/-! ### impl_DecodeSuper: function 13, by hand -/
/-! ### a reader over a row of bytes -/
structure Rdr (W0 W : World) (gr : Nat) (l : List Int) : Prop where
  cell : ∃ A c, W.heap[gr]? = some (.cells #[.slice A l.length c] 106 (0, 0)) ∧ Kd.C (Kd.int .u8) W0 A l.length l ∧ l.length ≤ c
  ge : W0.heap.size ≤ gr
  bel : Below W0.heap.size W0 W
theorem infoSz8_ : ∃ i, Try.prog.info? 5 = some i ∧ i.size = 1 := by
  obtain ⟨i0, hi0, hz0⟩ := Option.map_eq_some_iff.1 (show (Try.prog.info? 5).map (·.size) = some 1 by kernel_rfl)
  exact ⟨i0, hi0, hz0⟩
set_option maxHeartbeats 4000000 in
set_option maxRecDepth 100000 in
theorem take_c (W0 W : World) (gr : Nat) (l : List Int) (n : Nat) (h : Rdr W0 W gr l) (hn : n ≤ l.length) (hl : l.length ≤ 281474976710656) :
    Calls Try.prog 80 #[.pointer (some ⟨gr, 0, none⟩), .int .i64 n] W fun e w' => ∃ A c, e = .returned (.slice A n c) ∧ Kd.C (Kd.int .u8) W0 A n (l.take n) ∧ n ≤ c ∧ Rdr W0 w' gr (l.drop n) ∧ Kept W w' (fun k => k = gr) := by
  obtain ⟨A, c, hc, hr, hlc⟩ := h.cell
  obtain ⟨i0, hi0, hz0⟩ := infoSz8_
  have hcut1 := cut_to (P := Try.prog) 22 5 .i64 Try.underlying22 hi0 A l.length c (n : Int) (by omega) (by omega) hlc
  have hcut2 := cut_from (P := Try.prog) 22 5 .i64 Try.underlying22 hi0 1 hz0 A l.length c (n : Int) (by omega) (by omega)
  rw [Int.toNat_natCast] at hcut1 hcut2
  obtain ⟨A2, hA2⟩ : ∃ A2, A2 = (if c = n then A else A.map (·.add (n * 1))) := ⟨_, rfl⟩
  rw [← hA2] at hcut2
  have HCA2 := Aside0.mk hA2
  have hgt : decide ((l.length : Int) < (n : Int)) = false := decide_eq_false (by omega)
  have hgt2 : ((l.length : Int) < (n : Int)) = False := eq_false (by omega)
  have hgt3 : (l.length < n) = False := eq_false (by omega)
  have hcell : W.cell? ⟨gr, 0, none⟩ = some (.slice A l.length c) := (blk_cell hc 0).trans rfl
  have hfz := blk_frozen hc 0
  have HC := Aside0.mk hc
  have HH := Aside0.mk h
  have HR := Aside0.mk hr
  have HLC := Aside0.mk hlc
  have HN := Aside0.mk hn
  clear hc h hr hlc hn hA2 hi0 hz0
  go_enter Try.func80, Try.ntmps80
  go_wp2
  go_ret
  refine ⟨A, c, rfl, ?_, by have := HLC.out; have := HN.out; omega, ⟨⟨A2, c - n, ?_, ?_, ?_⟩, HH.out.ge, HH.out.bel.setCell (p := ⟨gr, 0, none⟩) HH.out.ge _⟩, Kept.setCell (p := ⟨gr, 0, none⟩) (Kept.refl W (fun k => k = gr)) (.inl rfl) _⟩
  · have h1 := Kd.C_take HR.out HN.out
    rwa [show (l.take n).length = n by rw [List.length_take]; have := HN.out; omega] at h1
  · rw [List.length_drop]; exact blk_set HC.out 0 _
  · rw [HCA2.out]; exact Kd.C_drop HR.out HN.out HLC.out
  · rw [List.length_drop]; have := HLC.out; omega
def ranOut_ : Value := .iface 103 (.agg #[])
set_option maxHeartbeats 4000000 in
set_option maxRecDepth 100000 in
theorem take_die (W0 W : World) (gr : Nat) (l : List Int) (n : Nat) (h : Rdr W0 W gr l) (hn : l.length < n) :
    Calls Try.prog 80 #[.pointer (some ⟨gr, 0, none⟩), .int .i64 n] W fun e w' => e = .panicked [{ v := ranOut_, recovered := false }] ∧ Rdr W0 w' gr l ∧ Kept W w' (fun k => k = gr) := by
  obtain ⟨A, c, hc, hr, hlc⟩ := h.cell
  have hgt : decide ((l.length : Int) < (n : Int)) = true := decide_eq_true (by omega)
  have hgt2 : ((l.length : Int) < (n : Int)) = True := eq_true (by omega)
  have hgt3 : (l.length < n) = True := eq_true (by omega)
  have hcell : W.cell? ⟨gr, 0, none⟩ = some (.slice A l.length c) := (blk_cell hc 0).trans rfl
  have hu := Try.underlying103
  have HH := Aside0.mk h
  clear hc h hr hlc hn
  go_enter Try.func80, Try.ntmps80
  go_wp2
  exact ⟨rfl, rfl, HH.out, Kept.refl _ _⟩
def numStep (v b : Int) : Int := bits BinOp.or .u64 (IntKind.u64.wrap (v * 256)) (IntKind.u64.wrap b)
def rnum (l : List Int) : Int := wrap64 (l.foldl numStep 0)
theorem foldl_rd {q : List Int} {i : Nat} (h : i < q.length) (v : Int) : (q.take (i + 1)).foldl numStep v = numStep ((q.take i).foldl numStep v) (rd q (i : Int)) := by
  rw [List.take_succ_eq_append_getElem h, List.foldl_append]
  simp [rd, h]
theorem cells_at {W : World} {A : Option Addr} {m : Nat} {l : List Int} (h : (Kd.int .u8).C W A m l) (i : Nat) (hi : i < m) : ∃ ad, A = some ad ∧ W.cell? (ad.add i) = some (.int .u8 (rd l (i : Int))) := by
  obtain ⟨ad, e, hx⟩ := Kd.at_int h (i : Int) (by omega) (by omega)
  rw [Int.toNat_natCast] at hx
  exact ⟨ad, e, hx⟩
set_option maxHeartbeats 4000000 in
set_option maxRecDepth 100000 in
theorem num_c (W0 W : World) (gr : Nat) (l : List Int) (n : Nat) (h : Rdr W0 W gr l) (hn : n ≤ l.length) (hl : l.length ≤ 281474976710656) :
    Calls Try.prog 47 #[.pointer (some ⟨gr, 0, none⟩), .int .i64 n] W fun e w' => e = .returned (.int .i64 (rnum (l.take n))) ∧ Rdr W0 w' gr (l.drop n) ∧ Kept W w' (fun k => k = gr) := by
  have HH := Aside0.mk h
  have HN := Aside0.mk hn
  have HL := Aside0.mk hl
  have HQ : Aside0 ((l.take n).length = n) := ⟨by rw [List.length_take]; omega⟩
  obtain ⟨q, hq⟩ : ∃ q, q = l.take n := ⟨_, rfl⟩
  have HQE := Aside0.mk hq
  rw [← hq] at HQ ⊢
  clear h hn hl hq
  go_enter Try.func47, Try.ntmps47
  go_wp2_with ((with_reducible refine gate_callee (f := 80) rfl ?_); refine goesL_ (some 10) rfl rfl Try.func80 (by kernel_rfl) rfl #[.pointer (some ⟨gr, 0, none⟩), .int .i64 n] rfl (by (try simp only [List.map_toArray, List.map_cons, List.map_nil]); first | done | rfl) ?_; refine (take_c W0 W gr l n HH.out HN.out HL.out).mono ?_; rintro e w1 ⟨A, c, rfl, hA_, hc_, hR_, hk_⟩; refine ⟨_, rfl, ?_⟩; (rw [← HQE.out] at hA_); have HA := Aside0.mk hA_; have HCC := Aside0.mk hc_; have HR1 := Aside0.mk hR_; have HK1 := Aside0.mk hk_; clear hA_ hc_ hR_ hk_)
  go_loopg [5, 12] n (fun kq v5 v12 w' => ∃ (x : Int) (i : Nat) (v : Int), v5 = .int .u64 v ∧ v12 = .int .i64 x ∧ Aside0 (x = (i : Int)) ∧ Aside0 (i + kq = n) ∧ Aside0 (v = (q.take i).foldl numStep 0) ∧ w' = w1)
  case atStart => exact ⟨0, 0, 0, rfl, rfl, ⟨rfl⟩, ⟨by omega⟩, ⟨rfl⟩, rfl⟩
  case round =>
    obtain ⟨x, i, v, rfl, rfl, HX, HK, HV, rfl⟩ := hrel
    cases gk with
    | zero =>
      have hi : i = n := by have := HK.out; omega
      subst hi
      have hx : x = (i : Int) := HX.out
      clear HX
      subst hx
      have hlt : decide ((i : Int) < (i : Int)) = false := decide_eq_false (by omega)
      go_wp2
      go_ret
      refine ⟨?_, HR1.out, HK1.out⟩
      unfold rnum
      have h1 := HV.out
      rw [List.take_of_length_le (by rw [HQ.out]; exact Nat.le_refl _)] at h1
      rw [h1]
      rfl
    | succ k2 =>
      have hi : i < n := by have := HK.out; omega
      have hx : x = (i : Int) := HX.out
      clear HX
      subst hx
      obtain ⟨ad, e1, hcx⟩ := cells_at (Kd.C_below HA.out HR1.out.bel) i hi
      subst e1
      have hlt : decide ((i : Int) < (n : Int)) = true := decide_eq_true (by omega)
      have hlt2 : (i < n) = True := eq_true hi
      have hi0 : (0 : Int) ≤ (i : Int) := by omega
      have HI := Aside0.mk hi
      clear hi
      go_wp2
      go_roundg k2
      case measure => omega
      case rel =>
        refine ⟨_, i + 1, _, rfl, rfl, ⟨?_⟩, ⟨by have := HK.out; omega⟩, ⟨?_⟩, rfl⟩
        · have := HI.out
          have := HN.out
          have := HL.out
          unfold wrap64
          omega
        · rw [foldl_rd (by rw [HQ.out]; exact HI.out), ← HV.out]
          rfl
set_option maxHeartbeats 4000000 in
set_option maxRecDepth 100000 in
theorem num_die (W0 W : World) (gr : Nat) (l : List Int) (n : Nat) (h : Rdr W0 W gr l) (hn : l.length < n) :
    Calls Try.prog 47 #[.pointer (some ⟨gr, 0, none⟩), .int .i64 n] W fun e w' => e = .panicked [{ v := ranOut_, recovered := false }] ∧ Rdr W0 w' gr l ∧ Kept W w' (fun k => k = gr) := by
  have HH := Aside0.mk h
  have HN := Aside0.mk hn
  clear h hn
  go_enter Try.func47, Try.ntmps47
  go_wp2_with (go_at_call 80; refine (take_die W0 W gr l n HH.out HN.out).mono ?_; rintro e w1 ⟨rfl, hR_, hk_⟩; have HR1 := Aside0.mk hR_; have HK1 := Aside0.mk hk_; clear hR_ hk_)
  exact ⟨rfl, rfl, HR1.out, HK1.out⟩
/-! ### good: the deferred closure, the call of the reading function -/
set_option maxHeartbeats 4000000 in
set_option maxRecDepth 100000 in
theorem good1_idle (p : Addr) (w : World) :
    CallsD Try.prog 79 #[.pointer (some p)] .returning w fun e u' w' => e = .returned (.tuple #[]) ∧ u' = .returning ∧ w' = w := by
  have hn : ∀ w : World, (binOp BinOp.neq 20 .nilIface .nilIface).run Try.prog w = .ok (.bool false) w := fun _ => by kernel_rfl
  refine callsD_of_wpS Try.func79 rfl fun c₀ cs hu => ?_
  apply wpS_seq
  apply wpS_region
  simp [wpOpsS, go_sem, recoverD, hu, Try.ntmps79, Exit.thenS]
  refine wpS_of_wp ?_
  go_wp2
  cases c₀
  simp_all [bodyPostS, results, Try.results79]
set_option maxHeartbeats 4000000 in
set_option maxRecDepth 100000 in
theorem good1_catch (g : Nat) (b : Bool) (older : List PanicEntry) (w : World) (hc : w.heap[g]? = some (.cells #[.bool b] 4 (0, 0))) :
    CallsD Try.prog 79 #[.pointer (some ⟨g, 0, none⟩)] (.panicking ({ v := ranOut_, recovered := false } :: older)) w fun e u' w' => e = .returned (.tuple #[]) ∧ u' = .panicking ({ v := ranOut_, recovered := true } :: older) ∧ w'.heap[g]? = some (.cells #[.bool false] 4 (0, 0)) ∧ Kept w w' (fun k => k = g) ∧ Below g w w' := by
  have HC := Aside0.mk hc
  unfold ranOut_
  have hn : ∀ w : World, (binOp BinOp.neq 20 (.iface 103 (.agg #[])) .nilIface).run Try.prog w = .ok (.bool true) w := fun _ => by kernel_rfl
  have hg : ∀ w : World, (eqGuard BinOp.neq 20 (Operand.tmp 5) (Operand.const Value.nilIface) (.iface 103 (.agg #[])) .nilIface).run Try.prog w = .ok () w := fun _ => by kernel_rfl
  have ht : ∀ w : World, (Instr.typeAssert (.iface 103 (.agg #[])) 20 103 true).run Try.prog w = .ok (.tuple #[.agg #[], .bool true]) w := fun _ => by kernel_rfl
  have hA := blk_alloc hc (.cells #[] 103)
  have hcA : (w.alloc (.cells #[] 103)).cell? ⟨g, 0, none⟩ = some (.bool b) := (blk_cell hA 0).trans rfl
  have hzA := blk_frozen hA 0
  have HA := Aside0.mk hA
  clear hc hA
  refine callsD_of_wpS Try.func79 rfl fun c₀ cs hu => ?_
  apply wpS_seq
  apply wpS_region
  simp [wpOpsS, go_sem, recoverD, hu, Try.ntmps79, Exit.thenS]
  refine wpS_of_wp ?_
  simp only [Array.replicate_succ, Array.replicate_zero, List.push_toArray, List.append_toArray, List.nil_append, List.cons_append, List.setIfInBounds_toArray, List.set_cons_zero, List.set_cons_succ]
  go_wp2
  exact ⟨rfl, _, rfl, _, results_none rfl _ _ _, rfl, rfl, blk_set HA.out 0 _, Kept.setCell (p := ⟨g, 0, none⟩) (Kept.alloc (Kept.refl w (fun k => k = g)) _) (.inl rfl) _, ((below_alloc (Below.refl w.heap.size w) _).mono (Nat.le_of_lt (blk_lt HC.out))).setCell (p := ⟨g, 0, none⟩) (Nat.le_refl _) _⟩
theorem results_bool1 {P : Program} {fn : Func} {p : Tmp} {T : TypeId} {tmps : Array Value} {w : World} {ad : Addr} {v : Value} (h : fn.results = #[.cell p T]) (hp : tmps[p]?.getD undef = .pointer (some ad)) (hu : P.underlying T = some .bool) (hc : w.cell? ad = some v) : (results fn tmps).run P w = .ok v w := by
  have hag : (isAgg T).run P w = .ok false w := by simp [isAgg, run_underlying hu]
  simp [results, h, hp, go_sem, hag, hc]
/-- The reading function ends (returned or out of bytes), and good says whether nothing was left. -/
def GoodF (F : FuncId) (cap : Array Value) (W0 W : World) (l : List Int) (T : Option (List Int) → World → Prop) : Prop :=
  ∀ (W1 : World) (gr : Nat), W.heap.size + 1 = gr → Rdr W0 W1 gr l → Below W.heap.size W W1 → W1.heap[W.heap.size]? = some (.cells #[.bool false] 4 (0, 0)) → Calls Try.prog F (#[.pointer (some ⟨gr, 0, none⟩)] ++ cap) W1 fun e w' =>
    (∃ v l', e = .returned v ∧ Rdr W0 w' gr l' ∧ T (some l') w' ∧ w'.heap[W.heap.size]? = some (.cells #[.bool false] 4 (0, 0))) ∨ (e = .panicked [{ v := ranOut_, recovered := false }] ∧ T none w' ∧ w'.heap[W.heap.size]? = some (.cells #[.bool false] 4 (0, 0)))
set_option maxHeartbeats 4000000 in
set_option maxRecDepth 100000 in
theorem good_c (W0 W : World) (hB0 : Below W0.heap.size W0 W) (A : Option Addr) (c : Nat) (l : List Int) (hr : (Kd.int .u8).C W0 A l.length l) (hc : l.length ≤ c) (F : FuncId) (cap : Array Value) (hen : ∀ args w, (callFunc F args).run Try.prog w = .ok (.enter F args) w) (T : Option (List Int) → World → Prop) (hf : GoodF F cap W0 W l T)
    (hT : ∀ o w w', T o w → Kept w w' (fun k => k = W.heap.size) → Below W.heap.size w w' → T o w') :
    Calls Try.prog 45 #[.slice A l.length c, .func (.func F) #[] cap] W fun e w' => ∃ o, e = .returned (.bool (decide (o = some []))) ∧ T o w' := by
  have hmf : ∀ (fn : Fn) (first cap : Array Value) (w : World), (Instr.makeFunc fn first cap).run Try.prog w = .ok (.func fn first cap) w := fun _ _ _ _ => rfl
  go_enter_defers Try.func45, Try.ntmps45
  go_wp2
  have hw1 := blk_new (W.alloc (.cells #[.bool false] 4)) (.cells #[.slice A l.length c] 106)
  have hb2 : Below W.heap.size W ((W.alloc (.cells #[.bool false] 4)).alloc (.cells #[.slice A l.length c] 106)) := below_alloc (below_alloc (Below.refl _ _) _) _
  have hw1' : ((W.alloc (.cells #[.bool false] 4)).alloc (.cells #[.slice A l.length c] 106)).heap[W.heap.size + 1]? = some (.cells #[.slice A l.length c] 106 (0, 0)) := by rw [World.size_alloc] at hw1; exact hw1
  refine (hf _ _ rfl ⟨⟨A, c, hw1', hr, hc⟩, by have := hB0.size; omega, below_step hB0 hb2⟩ hb2 (blk_alloc (blk_new W (.cells #[.bool false] 4)) _)).mono ?_
  rintro e w3 (⟨v, l', rfl, hR3, hT3, hb3⟩ | ⟨rfl, hT3, hb3⟩)
  · obtain ⟨A', c', hc3, _, _⟩ := hR3.cell
    have hcell : w3.cell? ⟨W.heap.size + 1, 0, none⟩ = some (.slice A' l'.length c') := (blk_cell hc3 0).trans rfl
    have hcb : w3.cell? ⟨W.heap.size, 0, none⟩ = some (.bool false) := (blk_cell hb3 0).trans rfl
    have hzb := blk_frozen hb3 0
    have HB3 := Aside0.mk hb3
    have HT3 := Aside0.mk hT3
    clear hf hT3 hR3 hc3 hb3 hw1 hw1' hb2
    go_wp2
    refine leaves_cons (f := 79) (args := #[.pointer (some ⟨W.heap.size, 0, none⟩)]) (by simp) (by simp [go_sem]) ?_
    refine (good1_idle ⟨W.heap.size, 0, none⟩ _).mono ?_
    rintro e u' w'' ⟨rfl, rfl, rfl⟩
    have hbs := blk_set HB3.out 0 (.bool ((l'.length : Int) == 0))
    have hcs : (w3.setCell ⟨W.heap.size, 0, none⟩ (.bool ((l'.length : Int) == 0))).cell? ⟨W.heap.size, 0, none⟩ = some (.bool ((l'.length : Int) == 0)) := (blk_cell hbs 0).trans rfl
    refine ⟨_, results_bool1 rfl rfl Try.underlying4 hcs, some l', ?_, hT _ _ _ HT3.out (Kept.setCell (p := ⟨W.heap.size, 0, none⟩) (Kept.refl w3 (fun k => k = W.heap.size)) (.inl rfl) _) ((Below.refl W.heap.size w3).setCell (p := ⟨W.heap.size, 0, none⟩) (Nat.le_refl _) _)⟩
    cases l' with
    | nil => rfl
    | cons a l' =>
      have h1 : ¬ (((a :: l').length : Int) = 0) := by rw [List.length_cons]; omega
      simp only [reduceCtorEq, decide_false, Option.some.injEq, beq_eq_false_iff_ne.mpr h1]
  · have HB3 := Aside0.mk hb3
    have HT3 := Aside0.mk hT3
    clear hf hT3 hw1 hw1' hb2
    go_wp2
    refine leaves_cons (f := 79) (args := #[.pointer (some ⟨W.heap.size, 0, none⟩)]) (by simp) (by simp [go_sem]) ?_
    refine (good1_catch W.heap.size false [] w3 HB3.out).mono ?_
    rintro e u' w4 ⟨rfl, rfl, hb4, hk4, hl4⟩
    have hcs : w4.cell? ⟨W.heap.size, 0, none⟩ = some (.bool false) := (blk_cell hb4 0).trans rfl
    exact ⟨_, results_bool1 rfl rfl Try.underlying4 hcs, none, rfl, hT _ _ _ HT3.out hk4 hl4⟩
/-! ### DecodeSuper's reading function -/
def supV (l : List Int) : List Int := [rnum ((l).take 8), rnum ((l.drop 8).take 1), rnum ((l.drop 9).take 4), rnum ((l.drop 13).take 4), rnum ((l.drop 17).take 4)]
theorem Rdr.far {W0 W W2 : World} {gr g : Nat} {l : List Int} (h : Rdr W0 W gr l) (hg : W.grownBy W2 (some g)) (hne : gr ≠ g) (hge : W0.heap.size ≤ g) : Rdr W0 W2 gr l := by
  obtain ⟨A, c, h1, h2, h3⟩ := h.cell
  exact ⟨⟨A, c, blk_grown h1 hg (fun e => hne (by injection e)), h2, h3⟩, h.ge, pw_below_grown h.bel (some g) h.bel.size hg (fun k_ hk_ => by injection hk_ with hk_; rw [← hk_]; exact hge)⟩
def SupT (W0 W : World) (gs : Nat) (l : List Int) (o : Option (List Int)) (w' : World) : Prop := o = some (l.drop 21) ∧ w'.heap[gs]? = some (.cells #[.int .i64 (rnum ((l).take 8)), .int .i64 (rnum ((l.drop 8).take 1)), .int .i64 (rnum ((l.drop 9).take 4)), .int .i64 (rnum ((l.drop 13).take 4)), .int .i64 (rnum ((l.drop 17).take 4))] 24 (0, 0)) ∧ Kept W w' (fun k => k = gs) ∧ Below W0.heap.size W0 w'
set_option maxHeartbeats 8000000 in
set_option maxRecDepth 100000 in
theorem sup_f (W0 W : World) (gs : Nat) (l : List Int) (hl : l.length = 64) (hs : W.heap[gs]? = some (.cells #[.int .i64 0, .int .i64 0, .int .i64 0, .int .i64 0, .int .i64 0] 24 (0, 0))) (hge : W0.heap.size ≤ gs) : GoodF 46 #[.pointer (some ⟨gs, 0, none⟩)] W0 W l (SupT W0 W gs l) := by
  intro W1 gr hgr hR hB hok
  have HH := Aside0.mk hR
  have HB := Aside0.mk hB
  have HOK := Aside0.mk hok
  have HL := Aside0.mk hl
  have HS1 := Aside0.mk ((hB.block _ (blk_lt hs)).trans hs)
  have HNE : Aside0 (gs ≠ gr ∧ gs ≠ W.heap.size ∧ W.heap.size ≠ gr) := ⟨by have := blk_lt hs; omega⟩
  have HGE := Aside0.mk hge
  clear hR hB hok hl hs hge
  go_enter Try.func46, Try.ntmps46
  go_wp2_with (first | ((with_reducible refine gate_callee (f := 47) rfl ?_); refine goesL_ (some 4) rfl rfl Try.func47 (by kernel_rfl) rfl #[.pointer (some ⟨gr, 0, none⟩), .int .i64 8] rfl (by (try simp only [List.map_toArray, List.map_cons, List.map_nil]); first | done | rfl) ?_; refine (num_c W0 W1 gr (l) 8 HH.out (by have := HL.out; (try simp only [List.length_drop]); omega) (by have := HL.out; (try simp only [List.length_drop]); omega)).mono ?_; rintro e w1_ ⟨rfl, hR_, hk_⟩; refine ⟨_, rfl, ?_⟩; (try simp only [List.drop_drop, Nat.reduceAdd] at hR_); have HR1 := Aside0.mk hR_; have HK1 := Aside0.mk (hk_); clear hR_ hk_) | ((with_reducible refine gate_callee (f := 47) rfl ?_); refine goesL_ (some 6) rfl rfl Try.func47 (by kernel_rfl) rfl #[.pointer (some ⟨gr, 0, none⟩), .int .i64 1] rfl (by (try simp only [List.map_toArray, List.map_cons, List.map_nil]); first | done | rfl) ?_; refine (num_c W0 w1_ gr (l.drop 8) 1 HR1.out (by have := HL.out; (try simp only [List.length_drop]); omega) (by have := HL.out; (try simp only [List.length_drop]); omega)).mono ?_; rintro e w2_ ⟨rfl, hR_, hk_⟩; refine ⟨_, rfl, ?_⟩; (try simp only [List.drop_drop, Nat.reduceAdd] at hR_); have HR2 := Aside0.mk hR_; have HK2 := Aside0.mk (HK1.out.then_ hk_ (fun _ h_ => .inl h_)); clear hR_ hk_) | ((with_reducible refine gate_callee (f := 47) rfl ?_); refine goesL_ (some 8) rfl rfl Try.func47 (by kernel_rfl) rfl #[.pointer (some ⟨gr, 0, none⟩), .int .i64 4] rfl (by (try simp only [List.map_toArray, List.map_cons, List.map_nil]); first | done | rfl) ?_; refine (num_c W0 w2_ gr (l.drop 9) 4 HR2.out (by have := HL.out; (try simp only [List.length_drop]); omega) (by have := HL.out; (try simp only [List.length_drop]); omega)).mono ?_; rintro e w3_ ⟨rfl, hR_, hk_⟩; refine ⟨_, rfl, ?_⟩; (try simp only [List.drop_drop, Nat.reduceAdd] at hR_); have HR3 := Aside0.mk hR_; have HK3 := Aside0.mk (HK2.out.then_ hk_ (fun _ h_ => .inl h_)); clear hR_ hk_) | ((with_reducible refine gate_callee (f := 47) rfl ?_); refine goesL_ (some 10) rfl rfl Try.func47 (by kernel_rfl) rfl #[.pointer (some ⟨gr, 0, none⟩), .int .i64 4] rfl (by (try simp only [List.map_toArray, List.map_cons, List.map_nil]); first | done | rfl) ?_; refine (num_c W0 w3_ gr (l.drop 13) 4 HR3.out (by have := HL.out; (try simp only [List.length_drop]); omega) (by have := HL.out; (try simp only [List.length_drop]); omega)).mono ?_; rintro e w4_ ⟨rfl, hR_, hk_⟩; refine ⟨_, rfl, ?_⟩; (try simp only [List.drop_drop, Nat.reduceAdd] at hR_); have HR4 := Aside0.mk hR_; have HK4 := Aside0.mk (HK3.out.then_ hk_ (fun _ h_ => .inl h_)); clear hR_ hk_) | ((with_reducible refine gate_callee (f := 47) rfl ?_); refine goesL_ (some 12) rfl rfl Try.func47 (by kernel_rfl) rfl #[.pointer (some ⟨gr, 0, none⟩), .int .i64 4] rfl (by (try simp only [List.map_toArray, List.map_cons, List.map_nil]); first | done | rfl) ?_; refine (num_c W0 w4_ gr (l.drop 17) 4 HR4.out (by have := HL.out; (try simp only [List.length_drop]); omega) (by have := HL.out; (try simp only [List.length_drop]); omega)).mono ?_; rintro e w5_ ⟨rfl, hR_, hk_⟩; refine ⟨_, rfl, ?_⟩; (try simp only [List.drop_drop, Nat.reduceAdd] at hR_); have HR5 := Aside0.mk hR_; have HK5 := Aside0.mk (HK4.out.then_ hk_ (fun _ h_ => .inl h_)); clear hR_ hk_) | (refine Go.Proofs.YtlpjpmfhkmddjaaH.store_arr (g := gs) (cells := #[.int .i64 (rnum ((l).take 8)), .int .i64 (rnum ((l.drop 8).take 1)), .int .i64 (rnum ((l.drop 9).take 4)), .int .i64 (rnum ((l.drop 13).take 4)), .int .i64 (rnum ((l.drop 17).take 4))]) rfl (t := 24) rfl rfl rfl rfl ((HK5.out.2 gs (blk_lt HS1.out) HNE.out.1).trans HS1.out) (by kernel_rfl) rfl (by kernel_rfl) ?_; intro w6 hA_ hg_; have HA6 := Aside0.mk hA_; have HG6 := Aside0.mk hg_; clear hA_ hg_))
  go_end0
  have hR6 := HR5.out.far HG6.out (Ne.symm HNE.out.1) HGE.out
  have hk6 : Kept W w6 (fun k => k = gs) := by
    have h1 : Kept W1 w6 (fun k => k = gr ∨ k = gs) := Kept.of_grown HG6.out (HK5.out.mono (fun _ h_ => .inl h_)) (fun k_ hk_ => by injection hk_ with hk_; exact .inl (.inr hk_.symm))
    exact (Kept.of_below HB.out _).then_ h1 (fun k h_ => Or.elim h_ (fun h2_ => .inr (by omega)) .inl)
  refine .inl ⟨_, _, rfl, hR6, ⟨rfl, HA6.out, hk6, hR6.bel⟩, ?_⟩
  exact blk_grown ((HK5.out.2 _ (blk_lt HOK.out) HNE.out.2.2).trans HOK.out) HG6.out (fun e_ => HNE.out.2.1 (by injection e_ with e_; exact e_.symm))
def arrV (l : List Int) : Value := .agg (l.map (Value.int .u8)).toArray
theorem run_toarr {o : Oper} {a : Act} {x : Operand} {w : World} {A : Option Addr} {m c : Nat} (ho : o.op = .sliceToArrayPointer 68 x) (hx : a.eval x = .slice A m c) (hm : 64 ≤ m) : (execOp a.eval o).run Try.prog w = .ok (.value (.pointer A)) w := by
  unfold execOp
  simp [ho, hx, Instr.arrayAt, run_underlying Try.underlying68, show ¬ m < 64 by omega]
theorem run_ldC {o : Oper} {a : Act} {x : Operand} {W : World} {A : Option Addr} {xs : List Int} (ho : o.op = .load 68 x) (hx : a.eval x = .pointer A) (hl : xs.length = 64) (hr : (Kd.int .u8).C W A xs.length xs) : (execOp a.eval o).run Try.prog W = .ok (.value (arrV xs)) W := by
  obtain ⟨_, _, hr3⟩ := hr
  obtain ⟨ad, rfl, hr4⟩ := hr3 (by omega)
  have hl2 : (loadCells ad (xs.map (Value.int .u8)).length).run Try.prog W = .ok (xs.map (Value.int .u8)).toArray W := by
    refine run_loadCells_list (P := Try.prog) W ad _ (fun j v hv => ?_)
    rw [List.getElem?_map] at hv
    obtain ⟨y, hy, rfl⟩ := Option.map_eq_some_iff.mp hv
    obtain ⟨c, _, hc, hcc⟩ := hr4 j y hy
    have hc' : c = [Value.int .u8 y] := hc
    subst hc'
    have := hcc 0 (Value.int .u8 y) rfl
    simpa [Kd.int, Kd.scalar] using this
  obtain ⟨i, hi, hz⟩ := Option.map_eq_some_iff.1 (show (Try.prog.info? 68).map (·.size) = some 64 by kernel_rfl)
  have hagg : (isAgg 68).run Try.prog W = .ok true W := by
    unfold isAgg
    simp [run_underlying Try.underlying68]
  rw [List.length_map, hl] at hl2
  unfold execOp
  simp [ho, hx, Instr.loadAt, Instr.sureAddr, loadVar, hagg, sizeOf, typeInfo, hi, hz, hl2, arrV]
theorem run_neq68 {o : Oper} {a : Act} {x y : Operand} {w : World} {xs ys : List Int} {T2 : TypeId} (ho : o.op = .binOp .neq 68 x y T2) (hx : a.eval x = .agg (xs.map (Value.int .u8)).toArray) (hy : a.eval y = arrV ys) (h1 : xs.length = 64) (h2 : ys.length = 64) : (execOp a.eval o).run Try.prog w = .ok (.value (.bool (!decide (xs = ys)))) w := by
  obtain ⟨i, hi, hz⟩ := Option.map_eq_some_iff.1 (show (Try.prog.info? 5).map (·.size) = some 1 by kernel_rfl)
  have hsz : ∀ w, (sizeOf 5).run Try.prog w = .ok 1 w := fun w => by simp [sizeOf, typeInfo, hi, hz]
  have hgt := run_eqGuard_agg (P := Try.prog) w .neq 68 x y (xs.map (Value.int .u8)).toArray (ys.map (Value.int .u8)).toArray (by kernel_rfl)
  have hq := YtlpjpmfhkmddjaaH.run_neq_arr (P := Try.prog) (w := w) Try.underlying68 Try.underlying5 hsz xs ys h1 h2
  unfold execOp
  simp only [ho, hx, hy, arrV, Sem.run_bind, hgt, hq, Result.andThen_ok, Sem.run_pure]
theorem blkLen {k : Nat} {a0 a1 a2 a3 a4 : Int} {b : List Int} (h : impl_Super_block.f k a0 a1 a2 a3 a4 = some b) : b.length = 64 := by
  unfold impl_Super_block.f at h
  obtain ⟨r_, _, h⟩ := Option.bind_eq_some_iff.mp h
  split at h
  · rename_i h64; rw [← Option.some.inj h]; exact h64
  · cases h
def impl_DecodeSuper.f (k : Nat) (l0 : List Int) : Option (Bool × Int × Int × Int × Int × Int) := if (l0.length : Int) = 64 then ((impl_Super_valid.f (rnum (l0.take 8)) (rnum ((l0.drop 8).take 1)) (rnum ((l0.drop 9).take 4)) (rnum ((l0.drop 13).take 4)) (rnum ((l0.drop 17).take 4))).bind fun v => if v = true then ((impl_Super_block.f k (rnum (l0.take 8)) (rnum ((l0.drop 8).take 1)) (rnum ((l0.drop 9).take 4)) (rnum ((l0.drop 13).take 4)) (rnum ((l0.drop 17).take 4))).bind fun b => if b = l0 then some (true, rnum (l0.take 8), rnum ((l0.drop 8).take 1), rnum ((l0.drop 9).take 4), rnum ((l0.drop 13).take 4), rnum ((l0.drop 17).take 4)) else some (false, 0, 0, 0, 0, 0)) else some (false, 0, 0, 0, 0, 0)) else some (false, 0, 0, 0, 0, 0)
theorem impl_DecodeSuper.mono : ∀ l0 k, LeO (impl_DecodeSuper.f k l0) (impl_DecodeSuper.f (k + 1) l0) := by
  intro l0 k
  unfold impl_DecodeSuper.f
  refine LeO.ite (LeO.bind (LeO.refl _) (fun _ => LeO.ite (LeO.bind (impl_Super_block.mono _ _ _ _ _ _) (fun _ => LeO.refl _)) (LeO.refl _))) (LeO.refl _)
set_option maxHeartbeats 8000000 in
set_option maxRecDepth 100000 in
theorem impl_DecodeSuper.calls (k : Nat) (A0 : Option Addr) (c0 : Nat) (l0 : List Int) (r1 : Bool) (r2 r3 r4 r5 r6 : Int) (w : World) (hr0 : Kd.C (Kd.int .u8) w A0 l0.length l0) (hc0 : l0.length ≤ c0) (h : impl_DecodeSuper.f k l0 = some (r1, r2, r3, r4, r5, r6)) :
    Calls Try.prog 13 #[.slice A0 l0.length c0] w fun e w' => e = .returned (.agg #[.bool r1, .int .i64 r2, .int .i64 r3, .int .i64 r4, .int .i64 r5, .int .i64 r6]) ∧ Below w.heap.size w w' := by
  have HR0 := Aside0.mk hr0
  have HC0 := Aside0.mk hc0
  have hu1 := Try.underlying28
  have hu2 := Try.underlying24
  have hmf : ∀ (fn : Fn) (first cap : Array Value) (w : World), (Instr.makeFunc fn first cap).run Try.prog w = .ok (.func fn first cap) w := fun _ _ _ _ => rfl
  clear hr0 hc0
  unfold impl_DecodeSuper.f at h
  by_cases hl : (l0.length : Int) = 64
  · rw [if_pos hl] at h
    have HL : Aside0 (l0.length = 64) := ⟨by omega⟩
    have hlb : ((l0.length : Int) != 64) = false := by simp [hl]
    have hlb2 : ((l0.length : Int) == 64) = true := by simp [hl]
    obtain ⟨s0_, hs0_⟩ : ∃ x_, x_ = rnum (l0.take 8) := ⟨_, rfl⟩
    have HV0 := Aside0.mk hs0_
    obtain ⟨s1_, hs1_⟩ : ∃ x_, x_ = rnum ((l0.drop 8).take 1) := ⟨_, rfl⟩
    have HV1 := Aside0.mk hs1_
    obtain ⟨s2_, hs2_⟩ : ∃ x_, x_ = rnum ((l0.drop 9).take 4) := ⟨_, rfl⟩
    have HV2 := Aside0.mk hs2_
    obtain ⟨s3_, hs3_⟩ : ∃ x_, x_ = rnum ((l0.drop 13).take 4) := ⟨_, rfl⟩
    have HV3 := Aside0.mk hs3_
    obtain ⟨s4_, hs4_⟩ : ∃ x_, x_ = rnum ((l0.drop 17).take 4) := ⟨_, rfl⟩
    have HV4 := Aside0.mk hs4_
    rw [← hs0_, ← hs1_, ← hs2_, ← hs3_, ← hs4_] at h
    clear  hs0_ hs1_ hs2_ hs3_ hs4_
    obtain ⟨v_, hv_, h⟩ := Option.bind_eq_some_iff.mp h
    have AV := Aside0.mk hv_
    clear hv_ hl
    cases v_ with
    | false =>
      rw [if_neg (by decide)] at h
      simp only [Option.some.injEq, Prod.mk.injEq] at h
      obtain ⟨rfl, rfl, rfl, rfl, rfl, rfl⟩ := h
      go_enter Try.func13, Try.ntmps13
      go_wp2_with (first | ((with_reducible refine gate_dst (N := 2) rfl ?_); refine Go.Proofs.YtlpjpmfhkmddjaaH.alloc_arr rfl (t := 28) rfl (N := 2) rfl (zs := #[.bool false, .int .i64 0, .int .i64 0, .int .i64 0, .int .i64 0, .int .i64 0]) (n := 6) (by kernel_rfl) ?_; intro g2 hg_ w1 hA_ hb_ _; have HA2 := Aside0.mk hA_; have HB2 := Aside0.mk (hb_); have HGE2 := Aside0.mk (show w.heap.size ≤ g2 by (rw [hg_]; exact Nat.le_refl _)); clear hA_ hb_ hg_) | ((with_reducible refine gate_dst (N := 3) rfl ?_); refine Go.Proofs.YtlpjpmfhkmddjaaH.alloc_arr rfl (t := 24) rfl (N := 3) rfl (zs := #[.int .i64 0, .int .i64 0, .int .i64 0, .int .i64 0, .int .i64 0]) (n := 5) (by kernel_rfl) ?_; intro g3 hg_ w2 hA_ hb_ _; have HA3 := Aside0.mk hA_; have HA2b := Aside0.mk ((hb_.block _ (blk_lt HA2.out)).trans HA2.out); have HNE := Aside0.mk (show g2 ≠ g3 by (have h1_ := blk_lt HA2.out; omega)); have HB3 := Aside0.mk (below_step HB2.out hb_); have HGE3 := Aside0.mk (show w.heap.size ≤ g3 by (rw [hg_]; exact HB2.out.size)); clear hA_ hb_ hg_) | ((with_reducible refine gate_callee (f := 45) rfl ?_); refine goesL_ (some 10) rfl rfl Try.func45 (by kernel_rfl) rfl #[.slice A0 l0.length c0, .func (.func 46) #[] #[.pointer (some ⟨g3, 0, none⟩)]] rfl (by (try simp only [List.map_toArray, List.map_cons, List.map_nil]); first | done | rfl) ?_; refine (good_c w w2 HB3.out A0 c0 l0 HR0.out HC0.out 46 #[.pointer (some ⟨g3, 0, none⟩)] (enters_of Try.func46 (by kernel_rfl) rfl) (SupT w w2 g3 l0) (sup_f w w2 g3 l0 HL.out HA3.out HGE3.out) (fun o_ u_ u2_ h_ hk_ hb2_ => ⟨h_.1, (hk_.2 g3 (blk_lt h_.2.1) (fun e_ => by have h1_ := blk_lt HA3.out; omega)).trans h_.2.1, h_.2.2.1.then_ hk_ (fun k_ e_ => .inr (by omega)), h_.2.2.2.trans (hb2_.mono HB3.out.size)⟩)).mono ?_; rintro e w3 ⟨o_, rfl, ht_⟩; refine ⟨_, rfl, ?_⟩; have HS3 := Aside0.mk (show w3.heap[g3]? = some (.cells #[.int .i64 s0_, .int .i64 s1_, .int .i64 s2_, .int .i64 s3_, .int .i64 s4_] 24 (0, 0)) by (rw [HV0.out, HV1.out, HV2.out, HV3.out, HV4.out]; exact ht_.2.1)); have HA23 := Aside0.mk ((ht_.2.2.1.2 g2 (blk_lt HA2b.out) HNE.out).trans HA2b.out); have HB4 := Aside0.mk ht_.2.2.2; clear ht_))
      refine start_ (n := 11) (S := fun w' => w'.cell? ⟨g3, 0, none⟩ = some (.int .i64 s0_) ∧ w'.cell? ⟨g3, 1, none⟩ = some (.int .i64 s1_) ∧ w'.cell? ⟨g3, 2, none⟩ = some (.int .i64 s2_) ∧ w'.cell? ⟨g3, 3, none⟩ = some (.int .i64 s3_) ∧ w'.cell? ⟨g3, 4, none⟩ = some (.int .i64 s4_) ∧ (Kd.int .u8).C w' A0 l0.length l0) (ds := []) #[false, false, false, false, false, false, false, false, false, false, false] (by kernel_rfl) rfl rfl ⟨(blk_cell (blk_drew HS3.out) 0).trans rfl, (blk_cell (blk_drew HS3.out) 1).trans rfl, (blk_cell (blk_drew HS3.out) 2).trans rfl, (blk_cell (blk_drew HS3.out) 3).trans rfl, (blk_cell (blk_drew HS3.out) 4).trans rfl, Kd.C_below HR0.out (below_drew HB4.out)⟩ (fun hHeld => ?_)
      have HS5 := Aside0.mk (blk_drew HS3.out); have HA25 := Aside0.mk (blk_drew HA23.out); have HB5 := Aside0.mk (below_drew HB4.out); generalize w3.drew = w5 at HS5 HA25 HB5 hHeld ⊢
      refine take_ (i := 0) (N := some 11) (v := ?_) (a' := ?_) #[true, false, false, false, false, false, false, false, false, false, false] rfl rfl (by kernel_rfl) (fun _ _ _ h => h) (Or.inl ⟨by rfl, ?_⟩) hHeld ?_ ?_
      rotate_left
      · rintro w' ⟨s0, s1, s2, s3, s4, s5⟩
        go_simp
        with_reducible rfl
      rotate_left
      · simp only [Act.put, List.setIfInBounds_toArray, List.set_cons_zero, List.set_cons_succ, i64_w, i32_w]
        rfl
      refine one_ (i := 1) (N := some 12) #[true, true, false, false, false, false, false, false, false, false, false] rfl rfl (by kernel_rfl) (by decide) (fun K hK => ?_)
      refine goes_ Try.func41 (by kernel_rfl) rfl #[.agg #[.int .i64 s0_, .int .i64 s1_, .int .i64 s2_, .int .i64 s3_, .int .i64 s4_]] (by rfl) rfl rfl (by (try simp only [List.map_toArray, List.map_cons, List.map_nil]); first | done | rfl) ?_
      refine (impl_Super_valid.calls s0_ s1_ s2_ s3_ s4_ false w5 AV.out).mono ?_
      rintro e w6 ⟨rfl, hb_⟩
      refine ⟨_, rfl, ?_⟩
      have HS6 := Aside0.mk ((hb_.block _ (blk_lt HS5.out)).trans HS5.out)
      have HA26 := Aside0.mk ((hb_.block _ (blk_lt HA25.out)).trans HA25.out)
      have HB6 := Aside0.mk (below_step HB5.out hb_)
      clear hb_
      refine hK.out _ _ ⟨(blk_cell HS6.out 0).trans rfl, (blk_cell HS6.out 1).trans rfl, (blk_cell HS6.out 2).trans rfl, (blk_cell HS6.out 3).trans rfl, (blk_cell HS6.out 4).trans rfl, Kd.C_below HR0.out HB6.out⟩ (fun hHeld => ?_)
      clear hK K
      refine norm_ (a' := ?_) ?_ ?_
      rotate_left
      · show Act.put _ (some 12) _ = _
        simp only [Act.put, List.setIfInBounds_toArray, List.set_cons_zero, List.set_cons_succ, i64_w, i32_w]
        rfl
      refine pure_ (i := 2) (N := some 13) (v := ?_) (a' := ?_) #[true, true, true, false, false, false, false, false, false, false, false] rfl rfl (by kernel_rfl) (fun _ _ _ h => h) (Or.inl ⟨by rfl, ?_⟩) ?_ ?_
      rotate_left
      · intro w'
        go_simp
        with_reducible rfl
      rotate_left
      · simp only [Act.put, List.setIfInBounds_toArray, List.set_cons_zero, List.set_cons_succ, i64_w, i32_w]
        rfl
      refine pure_ (i := 3) (N := some 14) (v := ?_) (a' := ?_) #[true, true, true, true, false, false, false, false, false, false, false] rfl rfl (by kernel_rfl) (fun _ _ _ h => h) (Or.inl ⟨by rfl, ?_⟩) ?_ ?_
      rotate_left
      · intro w'
        go_simp
        with_reducible rfl
      rotate_left
      · simp only [Act.put, List.setIfInBounds_toArray, List.set_cons_zero, List.set_cons_succ, i64_w, i32_w]
        rfl
      refine pure_ (i := 4) (N := some 15) (v := undef) (a' := ?_) #[true, true, true, true, true, false, false, false, false, false, false] rfl rfl (by kernel_rfl) (fun _ _ _ h => h) (Or.inr ⟨by rfl, rfl⟩) ?_ ?_
      rotate_left
      · simp only [Act.put, List.setIfInBounds_toArray, List.set_cons_zero, List.set_cons_succ, i64_w, i32_w]
        rfl
      refine pure_ (i := 5) (N := some 16) (v := undef) (a' := ?_) #[true, true, true, true, true, true, false, false, false, false, false] rfl rfl (by kernel_rfl) (fun _ _ _ h => h) (Or.inr ⟨by rfl, rfl⟩) ?_ ?_
      rotate_left
      · simp only [Act.put, List.setIfInBounds_toArray, List.set_cons_zero, List.set_cons_succ, i64_w, i32_w]
        rfl
      refine pure_ (i := 6) (N := some 17) (v := undef) (a' := ?_) #[true, true, true, true, true, true, true, false, false, false, false] rfl rfl (by kernel_rfl) (fun _ _ _ h => h) (Or.inr ⟨by rfl, rfl⟩) ?_ ?_
      rotate_left
      · simp only [Act.put, List.setIfInBounds_toArray, List.set_cons_zero, List.set_cons_succ, i64_w, i32_w]
        rfl
      refine pure_ (i := 7) (N := some 18) (v := undef) (a' := ?_) #[true, true, true, true, true, true, true, true, false, false, false] rfl rfl (by kernel_rfl) (fun _ _ _ h => h) (Or.inr ⟨by rfl, rfl⟩) ?_ ?_
      rotate_left
      · simp only [Act.put, List.setIfInBounds_toArray, List.set_cons_zero, List.set_cons_succ, i64_w, i32_w]
        rfl
      refine pure_ (i := 8) (N := some 19) (v := undef) (a' := ?_) #[true, true, true, true, true, true, true, true, true, false, false] rfl rfl (by kernel_rfl) (fun _ _ _ h => h) (Or.inr ⟨by rfl, rfl⟩) ?_ ?_
      rotate_left
      · simp only [Act.put, List.setIfInBounds_toArray, List.set_cons_zero, List.set_cons_succ, i64_w, i32_w]
        rfl
      refine pure_ (i := 9) (N := some 20) (v := undef) (a' := ?_) #[true, true, true, true, true, true, true, true, true, true, false] rfl rfl (by kernel_rfl) (fun _ _ _ h => h) (Or.inr ⟨by rfl, rfl⟩) ?_ ?_
      rotate_left
      · simp only [Act.put, List.setIfInBounds_toArray, List.set_cons_zero, List.set_cons_succ, i64_w, i32_w]
        rfl
      refine pure_ (i := 10) (N := some 21) (v := ?_) (a' := ?_) #[true, true, true, true, true, true, true, true, true, true, true] rfl rfl (by kernel_rfl) (fun _ _ _ h => h) (Or.inl ⟨by rfl, ?_⟩) ?_ ?_
      rotate_left
      · intro w'
        go_simp
        with_reducible rfl
      rotate_left
      · simp only [Act.put, List.setIfInBounds_toArray, List.set_cons_zero, List.set_cons_succ, i64_w, i32_w]
        rfl
      refine done_ (by kernel_rfl) ?_
      go_wp2_with (refine Go.Proofs.YtlpjpmfhkmddjaaH.store_arr (g := g2) (cells := #[.bool false, .int .i64 0, .int .i64 0, .int .i64 0, .int .i64 0, .int .i64 0]) rfl (t := 28) rfl rfl rfl rfl HA26.out (by kernel_rfl) rfl (by kernel_rfl) ?_; intro w9 hA9_ hg9_; have HA9 := Aside0.mk hA9_; have HB9 := Aside0.mk (pw_below_grown HB6.out (some g2) HB6.out.size hg9_ (fun k_ hk_ => by injection hk_ with hk_; rw [← hk_]; exact HGE2.out)); clear hA9_ hg9_)
      refine bodyPost_ret (results_cell_row rfl _ _ g2 28 _ (0, 0) _ rfl HA9.out Try.underlying28 rfl (by kernel_rfl)) rfl ?_
      exact ⟨rfl, HB9.out⟩
    | true =>
      rw [if_pos rfl] at h
      obtain ⟨b_, hb_, h⟩ := Option.bind_eq_some_iff.mp h
      have AB := Aside0.mk hb_
      have HBL := Aside0.mk (blkLen hb_)
      clear hb_
      by_cases hbe : b_ = l0
      · rw [if_pos hbe] at h
        simp only [Option.some.injEq, Prod.mk.injEq] at h
        obtain ⟨rfl, rfl, rfl, rfl, rfl, rfl⟩ := h
        have hbd : decide (b_ = l0) = true := decide_eq_true hbe
        have hbd2 : (b_ = l0) = True := eq_true hbe
        clear hbe
        go_enter Try.func13, Try.ntmps13
        go_wp2_with (first | ((with_reducible refine gate_dst (N := 2) rfl ?_); refine Go.Proofs.YtlpjpmfhkmddjaaH.alloc_arr rfl (t := 28) rfl (N := 2) rfl (zs := #[.bool false, .int .i64 0, .int .i64 0, .int .i64 0, .int .i64 0, .int .i64 0]) (n := 6) (by kernel_rfl) ?_; intro g2 hg_ w1 hA_ hb_ _; have HA2 := Aside0.mk hA_; have HB2 := Aside0.mk (hb_); have HGE2 := Aside0.mk (show w.heap.size ≤ g2 by (rw [hg_]; exact Nat.le_refl _)); clear hA_ hb_ hg_) | ((with_reducible refine gate_dst (N := 3) rfl ?_); refine Go.Proofs.YtlpjpmfhkmddjaaH.alloc_arr rfl (t := 24) rfl (N := 3) rfl (zs := #[.int .i64 0, .int .i64 0, .int .i64 0, .int .i64 0, .int .i64 0]) (n := 5) (by kernel_rfl) ?_; intro g3 hg_ w2 hA_ hb_ _; have HA3 := Aside0.mk hA_; have HA2b := Aside0.mk ((hb_.block _ (blk_lt HA2.out)).trans HA2.out); have HNE := Aside0.mk (show g2 ≠ g3 by (have h1_ := blk_lt HA2.out; omega)); have HB3 := Aside0.mk (below_step HB2.out hb_); have HGE3 := Aside0.mk (show w.heap.size ≤ g3 by (rw [hg_]; exact HB2.out.size)); clear hA_ hb_ hg_) | ((with_reducible refine gate_callee (f := 45) rfl ?_); refine goesL_ (some 10) rfl rfl Try.func45 (by kernel_rfl) rfl #[.slice A0 l0.length c0, .func (.func 46) #[] #[.pointer (some ⟨g3, 0, none⟩)]] rfl (by (try simp only [List.map_toArray, List.map_cons, List.map_nil]); first | done | rfl) ?_; refine (good_c w w2 HB3.out A0 c0 l0 HR0.out HC0.out 46 #[.pointer (some ⟨g3, 0, none⟩)] (enters_of Try.func46 (by kernel_rfl) rfl) (SupT w w2 g3 l0) (sup_f w w2 g3 l0 HL.out HA3.out HGE3.out) (fun o_ u_ u2_ h_ hk_ hb2_ => ⟨h_.1, (hk_.2 g3 (blk_lt h_.2.1) (fun e_ => by have h1_ := blk_lt HA3.out; omega)).trans h_.2.1, h_.2.2.1.then_ hk_ (fun k_ e_ => .inr (by omega)), h_.2.2.2.trans (hb2_.mono HB3.out.size)⟩)).mono ?_; rintro e w3 ⟨o_, rfl, ht_⟩; refine ⟨_, rfl, ?_⟩; have HS3 := Aside0.mk (show w3.heap[g3]? = some (.cells #[.int .i64 s0_, .int .i64 s1_, .int .i64 s2_, .int .i64 s3_, .int .i64 s4_] 24 (0, 0)) by (rw [HV0.out, HV1.out, HV2.out, HV3.out, HV4.out]; exact ht_.2.1)); have HA23 := Aside0.mk ((ht_.2.2.1.2 g2 (blk_lt HA2b.out) HNE.out).trans HA2b.out); have HB4 := Aside0.mk ht_.2.2.2; clear ht_))
        refine start_ (n := 11) (S := fun w' => w'.cell? ⟨g3, 0, none⟩ = some (.int .i64 s0_) ∧ w'.cell? ⟨g3, 1, none⟩ = some (.int .i64 s1_) ∧ w'.cell? ⟨g3, 2, none⟩ = some (.int .i64 s2_) ∧ w'.cell? ⟨g3, 3, none⟩ = some (.int .i64 s3_) ∧ w'.cell? ⟨g3, 4, none⟩ = some (.int .i64 s4_) ∧ (Kd.int .u8).C w' A0 l0.length l0) (ds := []) #[false, false, false, false, false, false, false, false, false, false, false] (by kernel_rfl) rfl rfl ⟨(blk_cell (blk_drew HS3.out) 0).trans rfl, (blk_cell (blk_drew HS3.out) 1).trans rfl, (blk_cell (blk_drew HS3.out) 2).trans rfl, (blk_cell (blk_drew HS3.out) 3).trans rfl, (blk_cell (blk_drew HS3.out) 4).trans rfl, Kd.C_below HR0.out (below_drew HB4.out)⟩ (fun hHeld => ?_)
        have HS5 := Aside0.mk (blk_drew HS3.out); have HA25 := Aside0.mk (blk_drew HA23.out); have HB5 := Aside0.mk (below_drew HB4.out); generalize w3.drew = w5 at HS5 HA25 HB5 hHeld ⊢
        refine take_ (i := 0) (N := some 11) (v := ?_) (a' := ?_) #[true, false, false, false, false, false, false, false, false, false, false] rfl rfl (by kernel_rfl) (fun _ _ _ h => h) (Or.inl ⟨by rfl, ?_⟩) hHeld ?_ ?_
        rotate_left
        · rintro w' ⟨s0, s1, s2, s3, s4, s5⟩
          go_simp
          with_reducible rfl
        rotate_left
        · simp only [Act.put, List.setIfInBounds_toArray, List.set_cons_zero, List.set_cons_succ, i64_w, i32_w]
          rfl
        refine one_ (i := 1) (N := some 12) #[true, true, false, false, false, false, false, false, false, false, false] rfl rfl (by kernel_rfl) (by decide) (fun K hK => ?_)
        refine goes_ Try.func41 (by kernel_rfl) rfl #[.agg #[.int .i64 s0_, .int .i64 s1_, .int .i64 s2_, .int .i64 s3_, .int .i64 s4_]] (by rfl) rfl rfl (by (try simp only [List.map_toArray, List.map_cons, List.map_nil]); first | done | rfl) ?_
        refine (impl_Super_valid.calls s0_ s1_ s2_ s3_ s4_ true w5 AV.out).mono ?_
        rintro e w6 ⟨rfl, hb_⟩
        refine ⟨_, rfl, ?_⟩
        have HS6 := Aside0.mk ((hb_.block _ (blk_lt HS5.out)).trans HS5.out)
        have HA26 := Aside0.mk ((hb_.block _ (blk_lt HA25.out)).trans HA25.out)
        have HB6 := Aside0.mk (below_step HB5.out hb_)
        clear hb_
        refine hK.out _ _ ⟨(blk_cell HS6.out 0).trans rfl, (blk_cell HS6.out 1).trans rfl, (blk_cell HS6.out 2).trans rfl, (blk_cell HS6.out 3).trans rfl, (blk_cell HS6.out 4).trans rfl, Kd.C_below HR0.out HB6.out⟩ (fun hHeld => ?_)
        clear hK K
        refine norm_ (a' := ?_) ?_ ?_
        rotate_left
        · show Act.put _ (some 12) _ = _
          simp only [Act.put, List.setIfInBounds_toArray, List.set_cons_zero, List.set_cons_succ, i64_w, i32_w]
          rfl
        refine pure_ (i := 2) (N := some 13) (v := ?_) (a' := ?_) #[true, true, true, false, false, false, false, false, false, false, false] rfl rfl (by kernel_rfl) (fun _ _ _ h => h) (Or.inl ⟨by rfl, ?_⟩) ?_ ?_
        rotate_left
        · intro w'
          go_simp
          with_reducible rfl
        rotate_left
        · simp only [Act.put, List.setIfInBounds_toArray, List.set_cons_zero, List.set_cons_succ, i64_w, i32_w]
          rfl
        refine pure_ (i := 3) (N := some 14) (v := ?_) (a' := ?_) #[true, true, true, true, false, false, false, false, false, false, false] rfl rfl (by kernel_rfl) (fun _ _ _ h => h) (Or.inl ⟨by rfl, ?_⟩) ?_ ?_
        rotate_left
        · intro w'
          go_simp
          with_reducible rfl
        rotate_left
        · simp only [Act.put, List.setIfInBounds_toArray, List.set_cons_zero, List.set_cons_succ, i64_w, i32_w]
          rfl
        refine pure_ (i := 6) (N := some 17) (v := ?_) (a' := ?_) #[true, true, true, true, false, false, true, false, false, false, false] rfl rfl (by kernel_rfl) (fun _ _ _ h => h) (Or.inl ⟨by rfl, ?_⟩) ?_ ?_
        rotate_left
        · intro w'
          go_simp
          with_reducible rfl
        rotate_left
        · simp only [Act.put, List.setIfInBounds_toArray, List.set_cons_zero, List.set_cons_succ, i64_w, i32_w]
          rfl
        refine pure_ (i := 7) (N := some 18) (v := .pointer A0) (a' := ?_) #[true, true, true, true, false, false, true, true, false, false, false] rfl rfl (by kernel_rfl) (fun _ _ _ h => h) (Or.inl ⟨by rfl, ?_⟩) ?_ ?_
        · intro w'
          exact run_toarr (by rfl) (by rfl) (by have := HL.out; omega)
        rotate_left
        · simp only [Act.put, List.setIfInBounds_toArray, List.set_cons_zero, List.set_cons_succ, i64_w, i32_w]
          rfl
        refine take_ (i := 4) (N := some 15) (v := ?_) (a' := ?_) #[true, true, true, true, true, false, true, true, false, false, false] rfl rfl (by kernel_rfl) (fun _ _ _ h => h) (Or.inl ⟨by rfl, ?_⟩) hHeld ?_ ?_
        rotate_left
        · rintro w' ⟨s0, s1, s2, s3, s4, s5⟩
          go_simp
          with_reducible rfl
        rotate_left
        · simp only [Act.put, List.setIfInBounds_toArray, List.set_cons_zero, List.set_cons_succ, i64_w, i32_w]
          rfl
        refine take_ (i := 8) (N := some 19) (v := arrV l0) (a' := ?_) #[true, true, true, true, true, false, true, true, true, false, false] rfl rfl (by kernel_rfl) (fun _ _ _ h => h) (Or.inl ⟨by rfl, ?_⟩) hHeld ?_ ?_
        · rintro w' ⟨s0, s1, s2, s3, s4, s5⟩
          exact run_ldC (by rfl) (by rfl) HL.out s5
        rotate_left
        · simp only [Act.put, List.setIfInBounds_toArray, List.set_cons_zero, List.set_cons_succ, i64_w, i32_w]
          rfl
        refine one_ (i := 5) (N := some 16) #[true, true, true, true, true, true, true, true, true, false, false] rfl rfl (by kernel_rfl) (by decide) (fun K hK => ?_)
        refine goes_ Try.func42 (by kernel_rfl) rfl #[.agg #[.int .i64 s0_, .int .i64 s1_, .int .i64 s2_, .int .i64 s3_, .int .i64 s4_]] (by rfl) rfl rfl (by (try simp only [List.map_toArray, List.map_cons, List.map_nil]); first | done | rfl) ?_
        refine (impl_Super_block.calls k s0_ s1_ s2_ s3_ s4_ b_ w6 AB.out).mono ?_
        rintro e w7 ⟨rfl, hb_⟩
        refine ⟨_, rfl, ?_⟩
        have HS7 := Aside0.mk ((hb_.block _ (blk_lt HS6.out)).trans HS6.out)
        have HA27 := Aside0.mk ((hb_.block _ (blk_lt HA26.out)).trans HA26.out)
        have HB7 := Aside0.mk (below_step HB6.out hb_)
        clear hb_
        refine hK.out _ _ ⟨(blk_cell HS7.out 0).trans rfl, (blk_cell HS7.out 1).trans rfl, (blk_cell HS7.out 2).trans rfl, (blk_cell HS7.out 3).trans rfl, (blk_cell HS7.out 4).trans rfl, Kd.C_below HR0.out HB7.out⟩ (fun hHeld => ?_)
        clear hK K
        refine norm_ (a' := ?_) ?_ ?_
        rotate_left
        · show Act.put _ (some 16) _ = _
          simp only [Act.put, List.setIfInBounds_toArray, List.set_cons_zero, List.set_cons_succ, i64_w, i32_w]
          rfl
        refine pure_ (i := 9) (N := some 20) (v := .bool (!decide (b_ = l0))) (a' := ?_) #[true, true, true, true, true, true, true, true, true, true, false] rfl rfl (by kernel_rfl) (fun _ _ _ h => h) (Or.inl ⟨by rfl, ?_⟩) ?_ ?_
        · intro w'
          exact run_neq68 (by rfl) (by rfl) (by rfl) HBL.out HL.out
        rotate_left
        · simp only [Act.put, List.setIfInBounds_toArray, List.set_cons_zero, List.set_cons_succ, i64_w, i32_w]
          rfl
        refine pure_ (i := 10) (N := some 21) (v := ?_) (a' := ?_) #[true, true, true, true, true, true, true, true, true, true, true] rfl rfl (by kernel_rfl) (fun _ _ _ h => h) (Or.inl ⟨by rfl, ?_⟩) ?_ ?_
        rotate_left
        · intro w'
          go_simp
          with_reducible rfl
        rotate_left
        · simp only [Act.put, List.setIfInBounds_toArray, List.set_cons_zero, List.set_cons_succ, i64_w, i32_w]
          rfl
        refine done_ (by kernel_rfl) ?_
        have hcc0 : w7.cell? ⟨g3, 0, none⟩ = some (.int .i64 s0_) := (blk_cell HS7.out 0).trans rfl
        have hcc1 : w7.cell? ⟨g3, 1, none⟩ = some (.int .i64 s1_) := (blk_cell HS7.out 1).trans rfl
        have hcc2 : w7.cell? ⟨g3, 2, none⟩ = some (.int .i64 s2_) := (blk_cell HS7.out 2).trans rfl
        have hcc3 : w7.cell? ⟨g3, 3, none⟩ = some (.int .i64 s3_) := (blk_cell HS7.out 3).trans rfl
        have hcc4 : w7.cell? ⟨g3, 4, none⟩ = some (.int .i64 s4_) := (blk_cell HS7.out 4).trans rfl
        go_wp2_with (refine Go.Proofs.YtlpjpmfhkmddjaaH.store_arr (g := g2) (cells := #[.bool true, .int .i64 s0_, .int .i64 s1_, .int .i64 s2_, .int .i64 s3_, .int .i64 s4_]) rfl (t := 28) rfl rfl rfl rfl HA27.out (by kernel_rfl) rfl (by kernel_rfl) ?_; intro w9 hA9_ hg9_; have HA9 := Aside0.mk hA9_; have HB9 := Aside0.mk (pw_below_grown HB7.out (some g2) HB7.out.size hg9_ (fun k_ hk_ => by injection hk_ with hk_; rw [← hk_]; exact HGE2.out)); clear hA9_ hg9_)
        refine bodyPost_ret (results_cell_row rfl _ _ g2 28 _ (0, 0) _ rfl HA9.out Try.underlying28 rfl (by kernel_rfl)) rfl ?_
        exact ⟨rfl, HB9.out⟩
      · rw [if_neg hbe] at h
        simp only [Option.some.injEq, Prod.mk.injEq] at h
        obtain ⟨rfl, rfl, rfl, rfl, rfl, rfl⟩ := h
        have hbd : decide (b_ = l0) = false := decide_eq_false hbe
        have hbd2 : (b_ = l0) = False := eq_false hbe
        clear hbe
        go_enter Try.func13, Try.ntmps13
        go_wp2_with (first | ((with_reducible refine gate_dst (N := 2) rfl ?_); refine Go.Proofs.YtlpjpmfhkmddjaaH.alloc_arr rfl (t := 28) rfl (N := 2) rfl (zs := #[.bool false, .int .i64 0, .int .i64 0, .int .i64 0, .int .i64 0, .int .i64 0]) (n := 6) (by kernel_rfl) ?_; intro g2 hg_ w1 hA_ hb_ _; have HA2 := Aside0.mk hA_; have HB2 := Aside0.mk (hb_); have HGE2 := Aside0.mk (show w.heap.size ≤ g2 by (rw [hg_]; exact Nat.le_refl _)); clear hA_ hb_ hg_) | ((with_reducible refine gate_dst (N := 3) rfl ?_); refine Go.Proofs.YtlpjpmfhkmddjaaH.alloc_arr rfl (t := 24) rfl (N := 3) rfl (zs := #[.int .i64 0, .int .i64 0, .int .i64 0, .int .i64 0, .int .i64 0]) (n := 5) (by kernel_rfl) ?_; intro g3 hg_ w2 hA_ hb_ _; have HA3 := Aside0.mk hA_; have HA2b := Aside0.mk ((hb_.block _ (blk_lt HA2.out)).trans HA2.out); have HNE := Aside0.mk (show g2 ≠ g3 by (have h1_ := blk_lt HA2.out; omega)); have HB3 := Aside0.mk (below_step HB2.out hb_); have HGE3 := Aside0.mk (show w.heap.size ≤ g3 by (rw [hg_]; exact HB2.out.size)); clear hA_ hb_ hg_) | ((with_reducible refine gate_callee (f := 45) rfl ?_); refine goesL_ (some 10) rfl rfl Try.func45 (by kernel_rfl) rfl #[.slice A0 l0.length c0, .func (.func 46) #[] #[.pointer (some ⟨g3, 0, none⟩)]] rfl (by (try simp only [List.map_toArray, List.map_cons, List.map_nil]); first | done | rfl) ?_; refine (good_c w w2 HB3.out A0 c0 l0 HR0.out HC0.out 46 #[.pointer (some ⟨g3, 0, none⟩)] (enters_of Try.func46 (by kernel_rfl) rfl) (SupT w w2 g3 l0) (sup_f w w2 g3 l0 HL.out HA3.out HGE3.out) (fun o_ u_ u2_ h_ hk_ hb2_ => ⟨h_.1, (hk_.2 g3 (blk_lt h_.2.1) (fun e_ => by have h1_ := blk_lt HA3.out; omega)).trans h_.2.1, h_.2.2.1.then_ hk_ (fun k_ e_ => .inr (by omega)), h_.2.2.2.trans (hb2_.mono HB3.out.size)⟩)).mono ?_; rintro e w3 ⟨o_, rfl, ht_⟩; refine ⟨_, rfl, ?_⟩; have HS3 := Aside0.mk (show w3.heap[g3]? = some (.cells #[.int .i64 s0_, .int .i64 s1_, .int .i64 s2_, .int .i64 s3_, .int .i64 s4_] 24 (0, 0)) by (rw [HV0.out, HV1.out, HV2.out, HV3.out, HV4.out]; exact ht_.2.1)); have HA23 := Aside0.mk ((ht_.2.2.1.2 g2 (blk_lt HA2b.out) HNE.out).trans HA2b.out); have HB4 := Aside0.mk ht_.2.2.2; clear ht_))
        refine start_ (n := 11) (S := fun w' => w'.cell? ⟨g3, 0, none⟩ = some (.int .i64 s0_) ∧ w'.cell? ⟨g3, 1, none⟩ = some (.int .i64 s1_) ∧ w'.cell? ⟨g3, 2, none⟩ = some (.int .i64 s2_) ∧ w'.cell? ⟨g3, 3, none⟩ = some (.int .i64 s3_) ∧ w'.cell? ⟨g3, 4, none⟩ = some (.int .i64 s4_) ∧ (Kd.int .u8).C w' A0 l0.length l0) (ds := []) #[false, false, false, false, false, false, false, false, false, false, false] (by kernel_rfl) rfl rfl ⟨(blk_cell (blk_drew HS3.out) 0).trans rfl, (blk_cell (blk_drew HS3.out) 1).trans rfl, (blk_cell (blk_drew HS3.out) 2).trans rfl, (blk_cell (blk_drew HS3.out) 3).trans rfl, (blk_cell (blk_drew HS3.out) 4).trans rfl, Kd.C_below HR0.out (below_drew HB4.out)⟩ (fun hHeld => ?_)
        have HS5 := Aside0.mk (blk_drew HS3.out); have HA25 := Aside0.mk (blk_drew HA23.out); have HB5 := Aside0.mk (below_drew HB4.out); generalize w3.drew = w5 at HS5 HA25 HB5 hHeld ⊢
        refine take_ (i := 0) (N := some 11) (v := ?_) (a' := ?_) #[true, false, false, false, false, false, false, false, false, false, false] rfl rfl (by kernel_rfl) (fun _ _ _ h => h) (Or.inl ⟨by rfl, ?_⟩) hHeld ?_ ?_
        rotate_left
        · rintro w' ⟨s0, s1, s2, s3, s4, s5⟩
          go_simp
          with_reducible rfl
        rotate_left
        · simp only [Act.put, List.setIfInBounds_toArray, List.set_cons_zero, List.set_cons_succ, i64_w, i32_w]
          rfl
        refine one_ (i := 1) (N := some 12) #[true, true, false, false, false, false, false, false, false, false, false] rfl rfl (by kernel_rfl) (by decide) (fun K hK => ?_)
        refine goes_ Try.func41 (by kernel_rfl) rfl #[.agg #[.int .i64 s0_, .int .i64 s1_, .int .i64 s2_, .int .i64 s3_, .int .i64 s4_]] (by rfl) rfl rfl (by (try simp only [List.map_toArray, List.map_cons, List.map_nil]); first | done | rfl) ?_
        refine (impl_Super_valid.calls s0_ s1_ s2_ s3_ s4_ true w5 AV.out).mono ?_
        rintro e w6 ⟨rfl, hb_⟩
        refine ⟨_, rfl, ?_⟩
        have HS6 := Aside0.mk ((hb_.block _ (blk_lt HS5.out)).trans HS5.out)
        have HA26 := Aside0.mk ((hb_.block _ (blk_lt HA25.out)).trans HA25.out)
        have HB6 := Aside0.mk (below_step HB5.out hb_)
        clear hb_
        refine hK.out _ _ ⟨(blk_cell HS6.out 0).trans rfl, (blk_cell HS6.out 1).trans rfl, (blk_cell HS6.out 2).trans rfl, (blk_cell HS6.out 3).trans rfl, (blk_cell HS6.out 4).trans rfl, Kd.C_below HR0.out HB6.out⟩ (fun hHeld => ?_)
        clear hK K
        refine norm_ (a' := ?_) ?_ ?_
        rotate_left
        · show Act.put _ (some 12) _ = _
          simp only [Act.put, List.setIfInBounds_toArray, List.set_cons_zero, List.set_cons_succ, i64_w, i32_w]
          rfl
        refine pure_ (i := 2) (N := some 13) (v := ?_) (a' := ?_) #[true, true, true, false, false, false, false, false, false, false, false] rfl rfl (by kernel_rfl) (fun _ _ _ h => h) (Or.inl ⟨by rfl, ?_⟩) ?_ ?_
        rotate_left
        · intro w'
          go_simp
          with_reducible rfl
        rotate_left
        · simp only [Act.put, List.setIfInBounds_toArray, List.set_cons_zero, List.set_cons_succ, i64_w, i32_w]
          rfl
        refine pure_ (i := 3) (N := some 14) (v := ?_) (a' := ?_) #[true, true, true, true, false, false, false, false, false, false, false] rfl rfl (by kernel_rfl) (fun _ _ _ h => h) (Or.inl ⟨by rfl, ?_⟩) ?_ ?_
        rotate_left
        · intro w'
          go_simp
          with_reducible rfl
        rotate_left
        · simp only [Act.put, List.setIfInBounds_toArray, List.set_cons_zero, List.set_cons_succ, i64_w, i32_w]
          rfl
        refine pure_ (i := 6) (N := some 17) (v := ?_) (a' := ?_) #[true, true, true, true, false, false, true, false, false, false, false] rfl rfl (by kernel_rfl) (fun _ _ _ h => h) (Or.inl ⟨by rfl, ?_⟩) ?_ ?_
        rotate_left
        · intro w'
          go_simp
          with_reducible rfl
        rotate_left
        · simp only [Act.put, List.setIfInBounds_toArray, List.set_cons_zero, List.set_cons_succ, i64_w, i32_w]
          rfl
        refine pure_ (i := 7) (N := some 18) (v := .pointer A0) (a' := ?_) #[true, true, true, true, false, false, true, true, false, false, false] rfl rfl (by kernel_rfl) (fun _ _ _ h => h) (Or.inl ⟨by rfl, ?_⟩) ?_ ?_
        · intro w'
          exact run_toarr (by rfl) (by rfl) (by have := HL.out; omega)
        rotate_left
        · simp only [Act.put, List.setIfInBounds_toArray, List.set_cons_zero, List.set_cons_succ, i64_w, i32_w]
          rfl
        refine take_ (i := 4) (N := some 15) (v := ?_) (a' := ?_) #[true, true, true, true, true, false, true, true, false, false, false] rfl rfl (by kernel_rfl) (fun _ _ _ h => h) (Or.inl ⟨by rfl, ?_⟩) hHeld ?_ ?_
        rotate_left
        · rintro w' ⟨s0, s1, s2, s3, s4, s5⟩
          go_simp
          with_reducible rfl
        rotate_left
        · simp only [Act.put, List.setIfInBounds_toArray, List.set_cons_zero, List.set_cons_succ, i64_w, i32_w]
          rfl
        refine take_ (i := 8) (N := some 19) (v := arrV l0) (a' := ?_) #[true, true, true, true, true, false, true, true, true, false, false] rfl rfl (by kernel_rfl) (fun _ _ _ h => h) (Or.inl ⟨by rfl, ?_⟩) hHeld ?_ ?_
        · rintro w' ⟨s0, s1, s2, s3, s4, s5⟩
          exact run_ldC (by rfl) (by rfl) HL.out s5
        rotate_left
        · simp only [Act.put, List.setIfInBounds_toArray, List.set_cons_zero, List.set_cons_succ, i64_w, i32_w]
          rfl
        refine one_ (i := 5) (N := some 16) #[true, true, true, true, true, true, true, true, true, false, false] rfl rfl (by kernel_rfl) (by decide) (fun K hK => ?_)
        refine goes_ Try.func42 (by kernel_rfl) rfl #[.agg #[.int .i64 s0_, .int .i64 s1_, .int .i64 s2_, .int .i64 s3_, .int .i64 s4_]] (by rfl) rfl rfl (by (try simp only [List.map_toArray, List.map_cons, List.map_nil]); first | done | rfl) ?_
        refine (impl_Super_block.calls k s0_ s1_ s2_ s3_ s4_ b_ w6 AB.out).mono ?_
        rintro e w7 ⟨rfl, hb_⟩
        refine ⟨_, rfl, ?_⟩
        have HS7 := Aside0.mk ((hb_.block _ (blk_lt HS6.out)).trans HS6.out)
        have HA27 := Aside0.mk ((hb_.block _ (blk_lt HA26.out)).trans HA26.out)
        have HB7 := Aside0.mk (below_step HB6.out hb_)
        clear hb_
        refine hK.out _ _ ⟨(blk_cell HS7.out 0).trans rfl, (blk_cell HS7.out 1).trans rfl, (blk_cell HS7.out 2).trans rfl, (blk_cell HS7.out 3).trans rfl, (blk_cell HS7.out 4).trans rfl, Kd.C_below HR0.out HB7.out⟩ (fun hHeld => ?_)
        clear hK K
        refine norm_ (a' := ?_) ?_ ?_
        rotate_left
        · show Act.put _ (some 16) _ = _
          simp only [Act.put, List.setIfInBounds_toArray, List.set_cons_zero, List.set_cons_succ, i64_w, i32_w]
          rfl
        refine pure_ (i := 9) (N := some 20) (v := .bool (!decide (b_ = l0))) (a' := ?_) #[true, true, true, true, true, true, true, true, true, true, false] rfl rfl (by kernel_rfl) (fun _ _ _ h => h) (Or.inl ⟨by rfl, ?_⟩) ?_ ?_
        · intro w'
          exact run_neq68 (by rfl) (by rfl) (by rfl) HBL.out HL.out
        rotate_left
        · simp only [Act.put, List.setIfInBounds_toArray, List.set_cons_zero, List.set_cons_succ, i64_w, i32_w]
          rfl
        refine pure_ (i := 10) (N := some 21) (v := ?_) (a' := ?_) #[true, true, true, true, true, true, true, true, true, true, true] rfl rfl (by kernel_rfl) (fun _ _ _ h => h) (Or.inl ⟨by rfl, ?_⟩) ?_ ?_
        rotate_left
        · intro w'
          go_simp
          with_reducible rfl
        rotate_left
        · simp only [Act.put, List.setIfInBounds_toArray, List.set_cons_zero, List.set_cons_succ, i64_w, i32_w]
          rfl
        refine done_ (by kernel_rfl) ?_
        go_wp2_with (refine Go.Proofs.YtlpjpmfhkmddjaaH.store_arr (g := g2) (cells := #[.bool false, .int .i64 0, .int .i64 0, .int .i64 0, .int .i64 0, .int .i64 0]) rfl (t := 28) rfl rfl rfl rfl HA27.out (by kernel_rfl) rfl (by kernel_rfl) ?_; intro w9 hA9_ hg9_; have HA9 := Aside0.mk hA9_; have HB9 := Aside0.mk (pw_below_grown HB7.out (some g2) HB7.out.size hg9_ (fun k_ hk_ => by injection hk_ with hk_; rw [← hk_]; exact HGE2.out)); clear hA9_ hg9_)
        refine bodyPost_ret (results_cell_row rfl _ _ g2 28 _ (0, 0) _ rfl HA9.out Try.underlying28 rfl (by kernel_rfl)) rfl ?_
        exact ⟨rfl, HB9.out⟩
  · rw [if_neg hl] at h
    simp only [Option.some.injEq, Prod.mk.injEq] at h
    obtain ⟨rfl, rfl, rfl, rfl, rfl, rfl⟩ := h
    have hlb : ((l0.length : Int) != 64) = true := by simp [hl]
    clear hl
    go_enter Try.func13, Try.ntmps13
    go_wp2_with (first | ((with_reducible refine gate_dst (N := 2) rfl ?_); refine Go.Proofs.YtlpjpmfhkmddjaaH.alloc_arr rfl (t := 28) rfl (N := 2) rfl (zs := #[.bool false, .int .i64 0, .int .i64 0, .int .i64 0, .int .i64 0, .int .i64 0]) (n := 6) (by kernel_rfl) ?_; intro g2 hg_ w1 hA_ hb_ _; have HA2 := Aside0.mk hA_; have HB2 := Aside0.mk (hb_); have HGE2 := Aside0.mk (show w.heap.size ≤ g2 by (rw [hg_]; exact Nat.le_refl _)); clear hA_ hb_ hg_) | ((with_reducible refine gate_dst (N := 3) rfl ?_); refine Go.Proofs.YtlpjpmfhkmddjaaH.alloc_arr rfl (t := 24) rfl (N := 3) rfl (zs := #[.int .i64 0, .int .i64 0, .int .i64 0, .int .i64 0, .int .i64 0]) (n := 5) (by kernel_rfl) ?_; intro g3 hg_ w2 hA_ hb_ _; have HA3 := Aside0.mk hA_; have HA2b := Aside0.mk ((hb_.block _ (blk_lt HA2.out)).trans HA2.out); have HNE := Aside0.mk (show g2 ≠ g3 by (have h1_ := blk_lt HA2.out; omega)); have HB3 := Aside0.mk (below_step HB2.out hb_); have HGE3 := Aside0.mk (show w.heap.size ≤ g3 by (rw [hg_]; exact HB2.out.size)); clear hA_ hb_ hg_) | (refine Go.Proofs.YtlpjpmfhkmddjaaH.store_arr (g := g2) (cells := #[.bool false, .int .i64 0, .int .i64 0, .int .i64 0, .int .i64 0, .int .i64 0]) rfl (t := 28) rfl rfl rfl rfl HA2b.out (by kernel_rfl) rfl (by kernel_rfl) ?_; intro w9 hA9_ hg9_; have HA9 := Aside0.mk hA9_; have HB9 := Aside0.mk (pw_below_grown HB3.out (some g2) HB3.out.size hg9_ (fun k_ hk_ => by injection hk_ with hk_; rw [← hk_]; exact HGE2.out)); clear hA9_ hg9_))
    refine bodyPost_ret (results_cell_row rfl _ _ g2 28 _ (0, 0) _ rfl HA9.out Try.underlying28 rfl (by kernel_rfl)) rfl ?_
    exact ⟨rfl, HB9.out⟩

/-! ### spec_l3Stat: function 78 -/
def spec_l3Stat.f (a0 : Int) : Option (Bool) := if a0 ≥ 0 then (some (decide (a0 ≤ 2147483647))) else (some false)
set_option maxHeartbeats 8000000 in
set_option maxRecDepth 100000 in
theorem spec_l3Stat.calls (a0 : Int) (r : Bool) (w : World) (h : spec_l3Stat.f a0 = some r) :
    Calls Try.prog 78 #[.int .i64 a0] w fun e w' => e = .returned (.bool r) ∧ Drawn0 w w' := by
  have H : (if a0 ≥ 0 then (some (decide (a0 ≤ 2147483647))) else (some false)) = some r := h
  clear h
  by_cases c2 : a0 ≥ 0
  · rw [if_pos c2] at H
    have c2b0 : decide (0 ≤ a0) = true := decide_eq_true c2
    clear c2
    obtain rfl := Option.some.inj H
    go_enter Try.func78, Try.ntmps78
    go_wp2
    go_ret
    exact ⟨by first | rfl | (simp; done) | (simp [*]; done), by repeat (first | exact Drawn0.refl _ | apply Drawn0.step)⟩
  · rw [if_neg c2] at H
    have c2b0 : decide (0 ≤ a0) = false := decide_eq_false c2
    clear c2
    obtain rfl := Option.some.inj H
    go_enter Try.func78, Try.ntmps78
    go_wp2
    go_ret
    exact ⟨by first | rfl | (simp; done) | (simp [*]; done), by repeat (first | exact Drawn0.refl _ | apply Drawn0.step)⟩

/-! ### spec_l4ValidSuper: function 43 -/
def spec_l4ValidSuper.f (a0_0 : Int) (a0_1 : Int) (a0_2 : Int) (a0_3 : Int) (a0_4 : Int) : Option (Bool) := if a0_0 ≥ 1 then (if a0_1 ≥ 0 then (if a0_1 ≤ 1 then ((spec_l3Stat.f a0_2).bind fun t128 => (if t128 = true then (if a0_3 ≥ 0 then (if a0_3 ≤ 4096 then (if a0_4 ≥ 0 then (some (decide (a0_4 ≤ 4294967295))) else (some false)) else (some false)) else (some false)) else (some false))) else (some false)) else (some false)) else (some false)
set_option maxHeartbeats 8000000 in
set_option maxRecDepth 100000 in
theorem spec_l4ValidSuper.calls (a0_0 : Int) (a0_1 : Int) (a0_2 : Int) (a0_3 : Int) (a0_4 : Int) (r : Bool) (w : World) (h : spec_l4ValidSuper.f a0_0 a0_1 a0_2 a0_3 a0_4 = some r) :
    Calls Try.prog 43 #[.agg #[.int .i64 a0_0, .int .i64 a0_1, .int .i64 a0_2, .int .i64 a0_3, .int .i64 a0_4]] w fun e w' => e = .returned (.bool r) ∧ Below w.heap.size w w' := by
  have hu24 := Try.underlying24
  have HB := Aside0.mk (Below.refl w.heap.size w)
  have H : (if a0_0 ≥ 1 then (if a0_1 ≥ 0 then (if a0_1 ≤ 1 then ((spec_l3Stat.f a0_2).bind fun t128 => (if t128 = true then (if a0_3 ≥ 0 then (if a0_3 ≤ 4096 then (if a0_4 ≥ 0 then (some (decide (a0_4 ≤ 4294967295))) else (some false)) else (some false)) else (some false)) else (some false))) else (some false)) else (some false)) else (some false)) = some r := h
  clear h
  by_cases c2 : a0_0 ≥ 1
  · rw [if_pos c2] at H
    have c2b0 : decide (1 ≤ a0_0) = true := decide_eq_true c2
    clear c2
    by_cases c3 : a0_1 ≥ 0
    · rw [if_pos c3] at H
      have c3b0 : decide (0 ≤ a0_1) = true := decide_eq_true c3
      clear c3
      by_cases c4 : a0_1 ≤ 1
      · rw [if_pos c4] at H
        have c4b0 : decide (a0_1 ≤ 1) = true := decide_eq_true c4
        clear c4
        replace H := Option.bind_eq_some_iff.mp H
        obtain ⟨t128, A50, H⟩ := H
        replace H : (if t128 = true then (if a0_3 ≥ 0 then (if a0_3 ≤ 4096 then (if a0_4 ≥ 0 then (some (decide (a0_4 ≤ 4294967295))) else (some false)) else (some false)) else (some false)) else (some false)) = some r := H
        have A5 := Aside0.mk A50
        clear A50
        by_cases c6 : t128 = true
        · subst c6
          have H1 : (if a0_3 ≥ 0 then (if a0_3 ≤ 4096 then (if a0_4 ≥ 0 then (some (decide (a0_4 ≤ 4294967295))) else (some false)) else (some false)) else (some false)) = some r := by rw [if_pos rfl] at H; exact H
          clear H
          have H := H1
          clear H1
          by_cases c7 : a0_3 ≥ 0
          · rw [if_pos c7] at H
            have c7b0 : decide (0 ≤ a0_3) = true := decide_eq_true c7
            clear c7
            by_cases c8 : a0_3 ≤ 4096
            · rw [if_pos c8] at H
              have c8b0 : decide (a0_3 ≤ 4096) = true := decide_eq_true c8
              clear c8
              by_cases c9 : a0_4 ≥ 0
              · rw [if_pos c9] at H
                have c9b0 : decide (0 ≤ a0_4) = true := decide_eq_true c9
                clear c9
                obtain rfl := Option.some.inj H
                go_enter Try.func43, Try.ntmps43
                go_wp2_with (first | ((with_reducible refine gate_dst (N := 1) rfl ?_); refine box_event ?hg (N := 1) ?hd (cs := #[.int .i64 a0_0, .int .i64 a0_1, .int .i64 a0_2, .int .i64 a0_3, .int .i64 a0_4]) (t := 24) ?hr ?_; (case hd => rfl); (case hg => rfl); (case hr => first | (go_simp; done) | (go_simp; rfl)); intro gb127 hg w10 hbox hb; have n0_ := Aside0.mk (below_step (by repeat (first | (with_reducible first | exact HB.out | apply below_alloc | apply pw_below_drewN | apply below_drew1) | exact HB.out)) hb); have n1_ := Aside0.mk (hbox); have n2_ := Aside0.mk ((by rw [hg]; exact (below_size (by repeat (first | (with_reducible first | exact HB.out | apply below_alloc | apply pw_below_drewN | apply below_drew1) | exact HB.out))) : w.heap.size ≤ gb127)); have n3_ := Aside0.mk ((by rw [hg]; exact (below_size (by repeat (first | (with_reducible first | exact HB.out | apply below_alloc | apply pw_below_drewN | apply below_drew1) | exact HB.out))) : w.heap.size ≤ gb127)); clear HB; have HB := n0_; have BK127 := n1_; have GW127 := n2_; have GE127 := n3_; clear n0_ n1_ n2_ n3_; clear hb hbox hg; have hcz11_0 : w10.cell? ⟨gb127, 0, none⟩ = some (.int .i64 a0_0) := (blk_cell BK127.out 0).trans rfl; have hcz11_1 : w10.cell? ⟨gb127, 1, none⟩ = some (.int .i64 a0_1) := (blk_cell BK127.out 1).trans rfl; have hcz11_2 : w10.cell? ⟨gb127, 2, none⟩ = some (.int .i64 a0_2) := (blk_cell BK127.out 2).trans rfl; have hcz11_3 : w10.cell? ⟨gb127, 3, none⟩ = some (.int .i64 a0_3) := (blk_cell BK127.out 3).trans rfl; have hcz11_4 : w10.cell? ⟨gb127, 4, none⟩ = some (.int .i64 a0_4) := (blk_cell BK127.out 4).trans rfl; have hfz11_0 := blk_frozen BK127.out 0; have hfz11_1 := blk_frozen BK127.out 1; have hfz11_2 := blk_frozen BK127.out 2; have hfz11_3 := blk_frozen BK127.out 3; have hfz11_4 := blk_frozen BK127.out 4) | (go_at_call 78; (with_reducible refine (spec_l3Stat.calls a0_2 true _ A5.out).mono ?_); rintro e w' ⟨rfl, ⟨nd, rfl⟩⟩))
                go_ret
                exact ⟨by first | rfl | (simp [errW_none, errW_some] <;> rfl) | (simp [*, errW_none, errW_some] <;> rfl), by repeat (first | (with_reducible first | exact HB.out | apply below_alloc | apply pw_below_drewN | apply below_drew1 | refine below_set ?_ GE127.out) | exact HB.out)⟩
              · rw [if_neg c9] at H
                have c9b0 : decide (0 ≤ a0_4) = false := decide_eq_false c9
                clear c9
                obtain rfl := Option.some.inj H
                go_enter Try.func43, Try.ntmps43
                go_wp2_with (first | ((with_reducible refine gate_dst (N := 1) rfl ?_); refine box_event ?hg (N := 1) ?hd (cs := #[.int .i64 a0_0, .int .i64 a0_1, .int .i64 a0_2, .int .i64 a0_3, .int .i64 a0_4]) (t := 24) ?hr ?_; (case hd => rfl); (case hg => rfl); (case hr => first | (go_simp; done) | (go_simp; rfl)); intro gb127 hg w12 hbox hb; have n0_ := Aside0.mk (below_step (by repeat (first | (with_reducible first | exact HB.out | apply below_alloc | apply pw_below_drewN | apply below_drew1) | exact HB.out)) hb); have n1_ := Aside0.mk (hbox); have n2_ := Aside0.mk ((by rw [hg]; exact (below_size (by repeat (first | (with_reducible first | exact HB.out | apply below_alloc | apply pw_below_drewN | apply below_drew1) | exact HB.out))) : w.heap.size ≤ gb127)); have n3_ := Aside0.mk ((by rw [hg]; exact (below_size (by repeat (first | (with_reducible first | exact HB.out | apply below_alloc | apply pw_below_drewN | apply below_drew1) | exact HB.out))) : w.heap.size ≤ gb127)); clear HB; have HB := n0_; have BK127 := n1_; have GW127 := n2_; have GE127 := n3_; clear n0_ n1_ n2_ n3_; clear hb hbox hg; have hcz13_0 : w12.cell? ⟨gb127, 0, none⟩ = some (.int .i64 a0_0) := (blk_cell BK127.out 0).trans rfl; have hcz13_1 : w12.cell? ⟨gb127, 1, none⟩ = some (.int .i64 a0_1) := (blk_cell BK127.out 1).trans rfl; have hcz13_2 : w12.cell? ⟨gb127, 2, none⟩ = some (.int .i64 a0_2) := (blk_cell BK127.out 2).trans rfl; have hcz13_3 : w12.cell? ⟨gb127, 3, none⟩ = some (.int .i64 a0_3) := (blk_cell BK127.out 3).trans rfl; have hcz13_4 : w12.cell? ⟨gb127, 4, none⟩ = some (.int .i64 a0_4) := (blk_cell BK127.out 4).trans rfl; have hfz13_0 := blk_frozen BK127.out 0; have hfz13_1 := blk_frozen BK127.out 1; have hfz13_2 := blk_frozen BK127.out 2; have hfz13_3 := blk_frozen BK127.out 3; have hfz13_4 := blk_frozen BK127.out 4) | (go_at_call 78; (with_reducible refine (spec_l3Stat.calls a0_2 true _ A5.out).mono ?_); rintro e w' ⟨rfl, ⟨nd, rfl⟩⟩))
                go_ret
                exact ⟨by first | rfl | (simp [errW_none, errW_some] <;> rfl) | (simp [*, errW_none, errW_some] <;> rfl), by repeat (first | (with_reducible first | exact HB.out | apply below_alloc | apply pw_below_drewN | apply below_drew1 | refine below_set ?_ GE127.out) | exact HB.out)⟩
            · rw [if_neg c8] at H
              have c8b0 : decide (a0_3 ≤ 4096) = false := decide_eq_false c8
              clear c8
              obtain rfl := Option.some.inj H
              go_enter Try.func43, Try.ntmps43
              go_wp2_with (first | ((with_reducible refine gate_dst (N := 1) rfl ?_); refine box_event ?hg (N := 1) ?hd (cs := #[.int .i64 a0_0, .int .i64 a0_1, .int .i64 a0_2, .int .i64 a0_3, .int .i64 a0_4]) (t := 24) ?hr ?_; (case hd => rfl); (case hg => rfl); (case hr => first | (go_simp; done) | (go_simp; rfl)); intro gb127 hg w14 hbox hb; have n0_ := Aside0.mk (below_step (by repeat (first | (with_reducible first | exact HB.out | apply below_alloc | apply pw_below_drewN | apply below_drew1) | exact HB.out)) hb); have n1_ := Aside0.mk (hbox); have n2_ := Aside0.mk ((by rw [hg]; exact (below_size (by repeat (first | (with_reducible first | exact HB.out | apply below_alloc | apply pw_below_drewN | apply below_drew1) | exact HB.out))) : w.heap.size ≤ gb127)); have n3_ := Aside0.mk ((by rw [hg]; exact (below_size (by repeat (first | (with_reducible first | exact HB.out | apply below_alloc | apply pw_below_drewN | apply below_drew1) | exact HB.out))) : w.heap.size ≤ gb127)); clear HB; have HB := n0_; have BK127 := n1_; have GW127 := n2_; have GE127 := n3_; clear n0_ n1_ n2_ n3_; clear hb hbox hg; have hcz15_0 : w14.cell? ⟨gb127, 0, none⟩ = some (.int .i64 a0_0) := (blk_cell BK127.out 0).trans rfl; have hcz15_1 : w14.cell? ⟨gb127, 1, none⟩ = some (.int .i64 a0_1) := (blk_cell BK127.out 1).trans rfl; have hcz15_2 : w14.cell? ⟨gb127, 2, none⟩ = some (.int .i64 a0_2) := (blk_cell BK127.out 2).trans rfl; have hcz15_3 : w14.cell? ⟨gb127, 3, none⟩ = some (.int .i64 a0_3) := (blk_cell BK127.out 3).trans rfl; have hcz15_4 : w14.cell? ⟨gb127, 4, none⟩ = some (.int .i64 a0_4) := (blk_cell BK127.out 4).trans rfl; have hfz15_0 := blk_frozen BK127.out 0; have hfz15_1 := blk_frozen BK127.out 1; have hfz15_2 := blk_frozen BK127.out 2; have hfz15_3 := blk_frozen BK127.out 3; have hfz15_4 := blk_frozen BK127.out 4) | (go_at_call 78; (with_reducible refine (spec_l3Stat.calls a0_2 true _ A5.out).mono ?_); rintro e w' ⟨rfl, ⟨nd, rfl⟩⟩))
              go_ret
              exact ⟨by first | rfl | (simp [errW_none, errW_some] <;> rfl) | (simp [*, errW_none, errW_some] <;> rfl), by repeat (first | (with_reducible first | exact HB.out | apply below_alloc | apply pw_below_drewN | apply below_drew1 | refine below_set ?_ GE127.out) | exact HB.out)⟩
          · rw [if_neg c7] at H
            have c7b0 : decide (0 ≤ a0_3) = false := decide_eq_false c7
            clear c7
            obtain rfl := Option.some.inj H
            go_enter Try.func43, Try.ntmps43
            go_wp2_with (first | ((with_reducible refine gate_dst (N := 1) rfl ?_); refine box_event ?hg (N := 1) ?hd (cs := #[.int .i64 a0_0, .int .i64 a0_1, .int .i64 a0_2, .int .i64 a0_3, .int .i64 a0_4]) (t := 24) ?hr ?_; (case hd => rfl); (case hg => rfl); (case hr => first | (go_simp; done) | (go_simp; rfl)); intro gb127 hg w16 hbox hb; have n0_ := Aside0.mk (below_step (by repeat (first | (with_reducible first | exact HB.out | apply below_alloc | apply pw_below_drewN | apply below_drew1) | exact HB.out)) hb); have n1_ := Aside0.mk (hbox); have n2_ := Aside0.mk ((by rw [hg]; exact (below_size (by repeat (first | (with_reducible first | exact HB.out | apply below_alloc | apply pw_below_drewN | apply below_drew1) | exact HB.out))) : w.heap.size ≤ gb127)); have n3_ := Aside0.mk ((by rw [hg]; exact (below_size (by repeat (first | (with_reducible first | exact HB.out | apply below_alloc | apply pw_below_drewN | apply below_drew1) | exact HB.out))) : w.heap.size ≤ gb127)); clear HB; have HB := n0_; have BK127 := n1_; have GW127 := n2_; have GE127 := n3_; clear n0_ n1_ n2_ n3_; clear hb hbox hg; have hcz17_0 : w16.cell? ⟨gb127, 0, none⟩ = some (.int .i64 a0_0) := (blk_cell BK127.out 0).trans rfl; have hcz17_1 : w16.cell? ⟨gb127, 1, none⟩ = some (.int .i64 a0_1) := (blk_cell BK127.out 1).trans rfl; have hcz17_2 : w16.cell? ⟨gb127, 2, none⟩ = some (.int .i64 a0_2) := (blk_cell BK127.out 2).trans rfl; have hcz17_3 : w16.cell? ⟨gb127, 3, none⟩ = some (.int .i64 a0_3) := (blk_cell BK127.out 3).trans rfl; have hcz17_4 : w16.cell? ⟨gb127, 4, none⟩ = some (.int .i64 a0_4) := (blk_cell BK127.out 4).trans rfl; have hfz17_0 := blk_frozen BK127.out 0; have hfz17_1 := blk_frozen BK127.out 1; have hfz17_2 := blk_frozen BK127.out 2; have hfz17_3 := blk_frozen BK127.out 3; have hfz17_4 := blk_frozen BK127.out 4) | (go_at_call 78; (with_reducible refine (spec_l3Stat.calls a0_2 true _ A5.out).mono ?_); rintro e w' ⟨rfl, ⟨nd, rfl⟩⟩))
            go_ret
            exact ⟨by first | rfl | (simp [errW_none, errW_some] <;> rfl) | (simp [*, errW_none, errW_some] <;> rfl), by repeat (first | (with_reducible first | exact HB.out | apply below_alloc | apply pw_below_drewN | apply below_drew1 | refine below_set ?_ GE127.out) | exact HB.out)⟩
        · replace c6 := Bool.eq_false_iff.mpr c6
          subst c6
          have H1 : (some false) = some r := by rw [if_neg (show ¬ (false = true) by decide)] at H; exact H
          clear H
          have H := H1
          clear H1
          obtain rfl := Option.some.inj H
          go_enter Try.func43, Try.ntmps43
          go_wp2_with (first | ((with_reducible refine gate_dst (N := 1) rfl ?_); refine box_event ?hg (N := 1) ?hd (cs := #[.int .i64 a0_0, .int .i64 a0_1, .int .i64 a0_2, .int .i64 a0_3, .int .i64 a0_4]) (t := 24) ?hr ?_; (case hd => rfl); (case hg => rfl); (case hr => first | (go_simp; done) | (go_simp; rfl)); intro gb127 hg w18 hbox hb; have n0_ := Aside0.mk (below_step (by repeat (first | (with_reducible first | exact HB.out | apply below_alloc | apply pw_below_drewN | apply below_drew1) | exact HB.out)) hb); have n1_ := Aside0.mk (hbox); have n2_ := Aside0.mk ((by rw [hg]; exact (below_size (by repeat (first | (with_reducible first | exact HB.out | apply below_alloc | apply pw_below_drewN | apply below_drew1) | exact HB.out))) : w.heap.size ≤ gb127)); have n3_ := Aside0.mk ((by rw [hg]; exact (below_size (by repeat (first | (with_reducible first | exact HB.out | apply below_alloc | apply pw_below_drewN | apply below_drew1) | exact HB.out))) : w.heap.size ≤ gb127)); clear HB; have HB := n0_; have BK127 := n1_; have GW127 := n2_; have GE127 := n3_; clear n0_ n1_ n2_ n3_; clear hb hbox hg; have hcz19_0 : w18.cell? ⟨gb127, 0, none⟩ = some (.int .i64 a0_0) := (blk_cell BK127.out 0).trans rfl; have hcz19_1 : w18.cell? ⟨gb127, 1, none⟩ = some (.int .i64 a0_1) := (blk_cell BK127.out 1).trans rfl; have hcz19_2 : w18.cell? ⟨gb127, 2, none⟩ = some (.int .i64 a0_2) := (blk_cell BK127.out 2).trans rfl; have hcz19_3 : w18.cell? ⟨gb127, 3, none⟩ = some (.int .i64 a0_3) := (blk_cell BK127.out 3).trans rfl; have hcz19_4 : w18.cell? ⟨gb127, 4, none⟩ = some (.int .i64 a0_4) := (blk_cell BK127.out 4).trans rfl; have hfz19_0 := blk_frozen BK127.out 0; have hfz19_1 := blk_frozen BK127.out 1; have hfz19_2 := blk_frozen BK127.out 2; have hfz19_3 := blk_frozen BK127.out 3; have hfz19_4 := blk_frozen BK127.out 4) | (go_at_call 78; (with_reducible refine (spec_l3Stat.calls a0_2 false _ A5.out).mono ?_); rintro e w' ⟨rfl, ⟨nd, rfl⟩⟩))
          go_ret
          exact ⟨by first | rfl | (simp [errW_none, errW_some] <;> rfl) | (simp [*, errW_none, errW_some] <;> rfl), by repeat (first | (with_reducible first | exact HB.out | apply below_alloc | apply pw_below_drewN | apply below_drew1 | refine below_set ?_ GE127.out) | exact HB.out)⟩
      · rw [if_neg c4] at H
        have c4b0 : decide (a0_1 ≤ 1) = false := decide_eq_false c4
        clear c4
        obtain rfl := Option.some.inj H
        go_enter Try.func43, Try.ntmps43
        go_wp2_with (first | ((with_reducible refine gate_dst (N := 1) rfl ?_); refine box_event ?hg (N := 1) ?hd (cs := #[.int .i64 a0_0, .int .i64 a0_1, .int .i64 a0_2, .int .i64 a0_3, .int .i64 a0_4]) (t := 24) ?hr ?_; (case hd => rfl); (case hg => rfl); (case hr => first | (go_simp; done) | (go_simp; rfl)); intro gb127 hg w20 hbox hb; have n0_ := Aside0.mk (below_step (by repeat (first | (with_reducible first | exact HB.out | apply below_alloc | apply pw_below_drewN | apply below_drew1) | exact HB.out)) hb); have n1_ := Aside0.mk (hbox); have n2_ := Aside0.mk ((by rw [hg]; exact (below_size (by repeat (first | (with_reducible first | exact HB.out | apply below_alloc | apply pw_below_drewN | apply below_drew1) | exact HB.out))) : w.heap.size ≤ gb127)); have n3_ := Aside0.mk ((by rw [hg]; exact (below_size (by repeat (first | (with_reducible first | exact HB.out | apply below_alloc | apply pw_below_drewN | apply below_drew1) | exact HB.out))) : w.heap.size ≤ gb127)); clear HB; have HB := n0_; have BK127 := n1_; have GW127 := n2_; have GE127 := n3_; clear n0_ n1_ n2_ n3_; clear hb hbox hg; have hcz21_0 : w20.cell? ⟨gb127, 0, none⟩ = some (.int .i64 a0_0) := (blk_cell BK127.out 0).trans rfl; have hcz21_1 : w20.cell? ⟨gb127, 1, none⟩ = some (.int .i64 a0_1) := (blk_cell BK127.out 1).trans rfl; have hcz21_2 : w20.cell? ⟨gb127, 2, none⟩ = some (.int .i64 a0_2) := (blk_cell BK127.out 2).trans rfl; have hcz21_3 : w20.cell? ⟨gb127, 3, none⟩ = some (.int .i64 a0_3) := (blk_cell BK127.out 3).trans rfl; have hcz21_4 : w20.cell? ⟨gb127, 4, none⟩ = some (.int .i64 a0_4) := (blk_cell BK127.out 4).trans rfl; have hfz21_0 := blk_frozen BK127.out 0; have hfz21_1 := blk_frozen BK127.out 1; have hfz21_2 := blk_frozen BK127.out 2; have hfz21_3 := blk_frozen BK127.out 3; have hfz21_4 := blk_frozen BK127.out 4))
        go_ret
        exact ⟨by first | rfl | (simp [errW_none, errW_some] <;> rfl) | (simp [*, errW_none, errW_some] <;> rfl), by repeat (first | (with_reducible first | exact HB.out | apply below_alloc | apply pw_below_drewN | apply below_drew1 | refine below_set ?_ GE127.out) | exact HB.out)⟩
    · rw [if_neg c3] at H
      have c3b0 : decide (0 ≤ a0_1) = false := decide_eq_false c3
      clear c3
      obtain rfl := Option.some.inj H
      go_enter Try.func43, Try.ntmps43
      go_wp2_with (first | ((with_reducible refine gate_dst (N := 1) rfl ?_); refine box_event ?hg (N := 1) ?hd (cs := #[.int .i64 a0_0, .int .i64 a0_1, .int .i64 a0_2, .int .i64 a0_3, .int .i64 a0_4]) (t := 24) ?hr ?_; (case hd => rfl); (case hg => rfl); (case hr => first | (go_simp; done) | (go_simp; rfl)); intro gb127 hg w22 hbox hb; have n0_ := Aside0.mk (below_step (by repeat (first | (with_reducible first | exact HB.out | apply below_alloc | apply pw_below_drewN | apply below_drew1) | exact HB.out)) hb); have n1_ := Aside0.mk (hbox); have n2_ := Aside0.mk ((by rw [hg]; exact (below_size (by repeat (first | (with_reducible first | exact HB.out | apply below_alloc | apply pw_below_drewN | apply below_drew1) | exact HB.out))) : w.heap.size ≤ gb127)); have n3_ := Aside0.mk ((by rw [hg]; exact (below_size (by repeat (first | (with_reducible first | exact HB.out | apply below_alloc | apply pw_below_drewN | apply below_drew1) | exact HB.out))) : w.heap.size ≤ gb127)); clear HB; have HB := n0_; have BK127 := n1_; have GW127 := n2_; have GE127 := n3_; clear n0_ n1_ n2_ n3_; clear hb hbox hg; have hcz23_0 : w22.cell? ⟨gb127, 0, none⟩ = some (.int .i64 a0_0) := (blk_cell BK127.out 0).trans rfl; have hcz23_1 : w22.cell? ⟨gb127, 1, none⟩ = some (.int .i64 a0_1) := (blk_cell BK127.out 1).trans rfl; have hcz23_2 : w22.cell? ⟨gb127, 2, none⟩ = some (.int .i64 a0_2) := (blk_cell BK127.out 2).trans rfl; have hcz23_3 : w22.cell? ⟨gb127, 3, none⟩ = some (.int .i64 a0_3) := (blk_cell BK127.out 3).trans rfl; have hcz23_4 : w22.cell? ⟨gb127, 4, none⟩ = some (.int .i64 a0_4) := (blk_cell BK127.out 4).trans rfl; have hfz23_0 := blk_frozen BK127.out 0; have hfz23_1 := blk_frozen BK127.out 1; have hfz23_2 := blk_frozen BK127.out 2; have hfz23_3 := blk_frozen BK127.out 3; have hfz23_4 := blk_frozen BK127.out 4))
      go_ret
      exact ⟨by first | rfl | (simp [errW_none, errW_some] <;> rfl) | (simp [*, errW_none, errW_some] <;> rfl), by repeat (first | (with_reducible first | exact HB.out | apply below_alloc | apply pw_below_drewN | apply below_drew1 | refine below_set ?_ GE127.out) | exact HB.out)⟩
  · rw [if_neg c2] at H
    have c2b0 : decide (1 ≤ a0_0) = false := decide_eq_false c2
    clear c2
    obtain rfl := Option.some.inj H
    go_enter Try.func43, Try.ntmps43
    go_wp2_with (first | ((with_reducible refine gate_dst (N := 1) rfl ?_); refine box_event ?hg (N := 1) ?hd (cs := #[.int .i64 a0_0, .int .i64 a0_1, .int .i64 a0_2, .int .i64 a0_3, .int .i64 a0_4]) (t := 24) ?hr ?_; (case hd => rfl); (case hg => rfl); (case hr => first | (go_simp; done) | (go_simp; rfl)); intro gb127 hg w24 hbox hb; have n0_ := Aside0.mk (below_step (by repeat (first | (with_reducible first | exact HB.out | apply below_alloc | apply pw_below_drewN | apply below_drew1) | exact HB.out)) hb); have n1_ := Aside0.mk (hbox); have n2_ := Aside0.mk ((by rw [hg]; exact (below_size (by repeat (first | (with_reducible first | exact HB.out | apply below_alloc | apply pw_below_drewN | apply below_drew1) | exact HB.out))) : w.heap.size ≤ gb127)); have n3_ := Aside0.mk ((by rw [hg]; exact (below_size (by repeat (first | (with_reducible first | exact HB.out | apply below_alloc | apply pw_below_drewN | apply below_drew1) | exact HB.out))) : w.heap.size ≤ gb127)); clear HB; have HB := n0_; have BK127 := n1_; have GW127 := n2_; have GE127 := n3_; clear n0_ n1_ n2_ n3_; clear hb hbox hg; have hcz25_0 : w24.cell? ⟨gb127, 0, none⟩ = some (.int .i64 a0_0) := (blk_cell BK127.out 0).trans rfl; have hcz25_1 : w24.cell? ⟨gb127, 1, none⟩ = some (.int .i64 a0_1) := (blk_cell BK127.out 1).trans rfl; have hcz25_2 : w24.cell? ⟨gb127, 2, none⟩ = some (.int .i64 a0_2) := (blk_cell BK127.out 2).trans rfl; have hcz25_3 : w24.cell? ⟨gb127, 3, none⟩ = some (.int .i64 a0_3) := (blk_cell BK127.out 3).trans rfl; have hcz25_4 : w24.cell? ⟨gb127, 4, none⟩ = some (.int .i64 a0_4) := (blk_cell BK127.out 4).trans rfl; have hfz25_0 := blk_frozen BK127.out 0; have hfz25_1 := blk_frozen BK127.out 1; have hfz25_2 := blk_frozen BK127.out 2; have hfz25_3 := blk_frozen BK127.out 3; have hfz25_4 := blk_frozen BK127.out 4))
    go_ret
    exact ⟨by first | rfl | (simp [errW_none, errW_some] <;> rfl) | (simp [*, errW_none, errW_some] <;> rfl), by repeat (first | (with_reducible first | exact HB.out | apply below_alloc | apply pw_below_drewN | apply below_drew1 | refine below_set ?_ GE127.out) | exact HB.out)⟩

/-! ### spec_l4Big: function 44 -/
def spec_l4Big.f : Nat → Int → Int → Option (List Int)
  | 0, _, _ => none
  | k + 1, a0, a1 => if a1 = 0 then (some (([] : List Int))) else ((spec_l4Big.f k (wrap64 (Int.tdiv a0 256)) (wrap64 (a1 - 1))).bind fun t132 => (if t132.length < 140737488355328 then (some (t132 ++ [(Int.tmod a0 256) % 256])) else (none)))
theorem spec_l4Big.mono_l : ∀ k, (∀ y0 y1, LeO (spec_l4Big.f k y0 y1) (spec_l4Big.f (k + 1) y0 y1))
  | 0 => fun _ _ r h => by simp [spec_l4Big.f] at h
  | k + 1 => by
    have ih0 := spec_l4Big.mono_l k
    · intro y0 y1
      unfold spec_l4Big.f
      repeat' first
      | (with_reducible exact ih0 _ _)
      | (with_reducible exact LeO.refl _)
      | (with_reducible exact LeO.none _)
      | (with_reducible refine LeO.ite ?_ ?_)
      | (with_reducible refine LeO.bind ?_ (fun _ => ?_))
      | exact ih0 _ _
      | exact LeO.none _
      | refine LeO.ite ?_ ?_
      | refine LeO.bind ?_ (fun _ => ?_)
theorem spec_l4Big.mono : ∀ a0 a1 k, LeO (spec_l4Big.f k a0 a1) (spec_l4Big.f (k + 1) a0 a1) := by
  intro a0 a1 k
  have ih0 := spec_l4Big.mono_l k
  exact ih0 a0 a1
set_option maxHeartbeats 8000000 in
set_option maxRecDepth 100000 in
theorem spec_l4Big.calls (k : Nat) : ∀ (a0 : Int) (a1 : Int) (r : List Int) (w : World) (h : spec_l4Big.f k a0 a1 = some r),
    Calls Try.prog 44 #[.int .i64 a0, .int .i64 a1] w fun e w' => ∃ v0_ : Value, e = .returned (v0_) ∧ Kd.R (Kd.int .u8) 5 w' w.heap.size (fun _ => True) v0_ r ∧ Below w.heap.size w w' := by
  induction k using Nat.strongRecOn with
  | _ k ih =>
  intro a0 a1 r w h
  cases k with
  | zero => exact absurd h (by simp [spec_l4Big.f])
  | succ k =>
  simp only [spec_l4Big.f] at h
  have HB := Aside0.mk (Below.refl w.heap.size w)
  have H : (if a1 = 0 then (some (([] : List Int))) else ((spec_l4Big.f k (wrap64 (Int.tdiv a0 256)) (wrap64 (a1 - 1))).bind fun t132 => (if t132.length < 140737488355328 then (some (t132 ++ [(Int.tmod a0 256) % 256])) else (none)))) = some r := h
  clear h
  by_cases c3 : a1 = 0
  · rw [if_pos c3] at H
    have c3b0 : (a1 == 0) = true := beq_iff_eq.mpr c3
    have c3b1 : (a1 != 0) = false := bne_eq_false_iff_eq.mpr c3
    clear c3
    obtain ⟨y129, hy129⟩ : ∃ y_ : List Int, y_ = (([] : List Int)) := ⟨_, rfl⟩
    replace H : (some y129) = some r := by first | (rw [hy129]; with_reducible exact H) | (have H2_ := (Option.bind_some _ _).symm.trans H; rw [hy129]; with_reducible exact H2_) | (have H2_ := (Option.bind_some _ _).symm.trans H; with_reducible exact H2_) | with_reducible exact H | (rw [hy129]; exact H) | exact H
    have Ny129 := Aside0.mk hy129
    clear hy129
    obtain rfl := Option.some.inj H
    go_enter Try.func44, Try.ntmps44
    go_wp2_with (first | ((with_reducible refine gate_dst (N := 7) rfl ?_); refine Kd.R_lit (Kd.int .u8) _ 5 ?hg (N := 7) ?hd (xs := ([] : List Int)) (inner := []) (ok := fun _ => True) (okp := fun _ => True) ?hr ?hp (fun _ hk => hk) trivial (Below.refl _ _) (Nat.le_refl _) (by simp) ?_; (case hd => rfl); (case hg => rfl); (case hr => first | (go_simp; done) | (go_simp; rfl)); (case hp => exact (Reps.none _ _)); intro v130 w4 ho5 hb hg_ hnew_; clear hg_ hnew_; (first | rw [← Ny129.out] at ho5 | (simp only [Int.reduceToNat] at ho5; rw [← Ny129.out] at ho5)); have n0_ := Aside0.mk (Kd.R_lower ho5 (below_size (by repeat (first | (with_reducible first | exact HB.out | apply below_alloc | apply pw_below_drewN | apply below_drew1) | exact HB.out)))); have n1_ := Aside0.mk (below_step (by repeat (first | (with_reducible first | exact HB.out | apply below_alloc | apply pw_below_drewN | apply below_drew1) | exact HB.out)) hb); clear HB; have HO131 := n0_; have HB := n1_; clear n0_ n1_; clear hb ho5))
    go_ret
    exact ⟨_, by first | rfl | (simp [errW_none, errW_some] <;> rfl) | (simp [*, errW_none, errW_some] <;> rfl), by (with_reducible repeat (first | apply Kd.R_alloc | apply Kd.R_drewN | apply Kd.R_drew)); exact HO131.out, by repeat (first | (with_reducible first | exact HB.out | apply below_alloc | apply pw_below_drewN | apply below_drew1) | exact HB.out)⟩
  · rw [if_neg c3] at H
    have c3b0 : (a1 == 0) = false := beq_eq_false_iff_ne.mpr c3
    have c3b1 : (a1 != 0) = true := bne_iff_ne.mpr c3
    replace H := Option.bind_eq_some_iff.mp H
    obtain ⟨t132, A60, H⟩ := H
    replace H : (if t132.length < 140737488355328 then (some (t132 ++ [(Int.tmod a0 256) % 256])) else (none)) = some r := H
    have A6 := Aside0.mk A60
    clear A60
    by_cases c7 : t132.length < 140737488355328
    · rw [if_pos c7] at H
      have LMc7 := Aside0.mk c7
      clear c7
      obtain ⟨y135, hy135⟩ : ∃ y_ : List Int, y_ = (t132 ++ [(Int.tmod a0 256) % 256]) := ⟨_, rfl⟩
      replace H : (some y135) = some r := by first | (rw [hy135]; with_reducible exact H) | (have H2_ := (Option.bind_some _ _).symm.trans H; rw [hy135]; with_reducible exact H2_) | (have H2_ := (Option.bind_some _ _).symm.trans H; with_reducible exact H2_) | with_reducible exact H | (rw [hy135]; exact H) | exact H
      have Ny135 := Aside0.mk hy135
      clear hy135
      obtain rfl := Option.some.inj H
      go_enter Try.func44, Try.ntmps44
      go_wp2_with (first | ((with_reducible refine gate_callee (f := 44) rfl ?_); refine goesL_ (some 12) rfl rfl Try.func44 (by kernel_rfl) rfl #[.int .i64 (wrap64 (Int.tdiv a0 256)), .int .i64 (wrap64 (a1 - 1))] rfl (by (try simp only [List.map_toArray, List.map_cons, List.map_nil]); first | done | rfl | (simp only [List.length_drop, List.length_take]; rfl)) ?_; (with_reducible refine (ih k (by omega) (wrap64 (Int.tdiv a0 256)) (wrap64 (a1 - 1)) t132 _ A6.out).mono ?_); rintro e w8 ⟨v133, rfl, ho0, hb⟩; refine ⟨_, rfl, ?_⟩; have n0_ := Aside0.mk (Kd.R_lower ho0 (below_size (by repeat (first | (with_reducible first | exact HB.out | apply below_alloc | apply pw_below_drewN | apply below_drew1) | exact HB.out)))); have n1_ := Aside0.mk (below_step (by repeat (first | (with_reducible first | exact HB.out | apply below_alloc | apply pw_below_drewN | apply below_drew1) | exact HB.out)) hb); clear HB; have HO134 := n0_; have HB := n1_; clear n0_ n1_; (try clear hb); (try clear hb2); (try clear hk); (try clear hi); (try clear ho0)) | ((with_reducible refine gate_builtin (b := .append) (xs := #[.tmp 12, .tmp 16]) rfl ?_); at_builtin; refine Kd.R_append (Kd.int .u8) (w0 := w) w.heap.size rfl (.tmp 12) (.tmp 16) 22 5 (.int .u8 0) 1 rfl Try.underlying22 info5 rfl (by decide) (by omega) v133 t132 ((Int.tmod a0 256) % 256) [.int .u8 ((Int.tmod a0 256) % 256)] (fun _ => True) (fun _ => False) rfl rfl ?aP (fun _ hk => hk.elim) ?aF ?aO ?aB ?aS ?aL ?_; (case aP => exact rfl); (case aB => exact (by repeat (first | (with_reducible first | exact HB.out | apply below_alloc | apply pw_below_drewN | apply below_drew1) | exact HB.out))); (case aF => exact (fun _ _ => trivial)); (case aO => exact (by (with_reducible repeat (first | apply Kd.R_alloc | apply Kd.R_drewN | apply Kd.R_drew)); exact HO134.out)); (case aS => exact (below_size (by repeat (first | (with_reducible first | exact HB.out | apply below_alloc | apply pw_below_drewN | apply below_drew1) | exact HB.out)))); (case aL => have := LMc7.out; omega); intro v136 w9 ho hb hg hat; rw [← Ny135.out] at ho; have n0_ := Aside0.mk (hb); have n1_ := Aside0.mk (ho); clear HB; clear HO134; have HB := n0_; have HO137 := n1_; clear n0_ n1_; clear ho hb hg hat))
      go_ret
      exact ⟨_, by first | rfl | (simp [errW_none, errW_some] <;> rfl) | (simp [*, errW_none, errW_some] <;> rfl), by (with_reducible repeat (first | apply Kd.R_alloc | apply Kd.R_drewN | apply Kd.R_drew)); exact HO137.out, by repeat (first | (with_reducible first | exact HB.out | apply below_alloc | apply pw_below_drewN | apply below_drew1) | exact HB.out)⟩
    · rw [if_neg c7] at H
      exact absurd H (by simp)

end Go.Proofs.Ytlpjpmfhkmddjaa.GFnExactDecodeSuper
