/- Written by give.py, a program of this session, that runs the kit's print and lays contracts proved by hand beside it. -/
import Derived.Test.YtfiojiokmkiflaaDoorGFnExactApplyTxnx0
import Derived.Test.YtfiojiokmkiflaaDoorHStep
import Derived.Test.YtfiojiokmkiflaaDoorGFnExactApplyTxnx4
namespace Go.Proofs.YtfiojiokmkiflaaDoor.GFnExactApplyTxn
open Go.Proofs.YtfiojiokmkiflaaDoorH (pu po ta pt ps p0 p1)
open Go.RowKit Go.Proofs.YtfiojiokmkiflaaDoorW.PrintWords Go.Proofs.YtfiojiokmkiflaaDoorW.PrintLast Go.Proofs.YtfiojiokmkiflaaDoorW.PrintMore
attribute [local go_sem] max2_int min2_int max_two min_two max_three min_three max_four min_four
attribute [local go_sem high] Go.Proofs.YtfiojiokmkiflaaDoorH.str_leq Go.Proofs.YtfiojiokmkiflaaDoorH.str_geq Go.Proofs.YtfiojiokmkiflaaDoorH.str_gtr   -- for this text's walks alone
set_option linter.unusedVariables false
set_option linter.unusedSimpArgs false

def nodeV (x : S77) : Value := .agg #[.string x.f0, .string x.f1, .int .i64 x.f2, .int .i64 x.f3, .int .i64 x.f4, .int .i64 x.f5, .int .i64 x.f6]
def gput (m : List (ByteArray × S77)) (x : S77) : List (ByteArray × S77) := YtfiojiokmkiflaaDoorH.aset m x.f0 x
def gnew (l : List S77) : List (ByteArray × S77) := l.foldl gput []
def geff (m : List (ByteArray × S77)) (e : S108) : List (ByteArray × S77) := if e.f0 = true then YtfiojiokmkiflaaDoorH.adel m e.f1.f0 else gput m e.f1
def gkeys (m : List (ByteArray × S77)) : List ByteArray := ((m.map fun p => p.1.data.toList).mergeSort fun x y => decide (x ≤ y)).map fun s => (⟨s.toArray⟩ : ByteArray)
def gtree (m : List (ByteArray × S77)) : List S77 := (gkeys m).map fun k => (YtfiojiokmkiflaaDoorH.aget m k).getD z77
structure Grv (W : World) (gp gm : Nat) (m : List (ByteArray × S77)) (z : Int) : Prop where
 bp : W.heap[gp]? = some (.cells #[.map (some gm), .int .i64 z] 179 (0, 0))
 bm : YtfiojiokmkiflaaDoorH.MapS nodeV W gm m
theorem run_exec_upd {P : Program} {o : Oper} {a : Act} {t : TypeId} {x k v : Operand} {X K V : Value} {w w1 : World} (ho : o.op = .mapUpdate t x k v) (hx : a.eval x = X) (hk : a.eval k = K) (hv : a.eval v = V) (h : (Instr.mapUpdate t X K V).run P w = .ok () w1) : (execOp a.eval o).run P w = .ok .skip w1 := by
 unfold execOp
 simp [ho, hx, hk, hv, h]
theorem run_ldn {o : Oper} {a : Act} {q : Operand} {w : World} {g T : Nat} {x : S77} (ho : o.op = .load 77 q) (hx : a.eval q = .pointer (some ⟨g, 0, none⟩)) (h : w.heap[g]? = some (.cells #[.string x.f0, .string x.f1, .int .i64 x.f2, .int .i64 x.f3, .int .i64 x.f4, .int .i64 x.f5, .int .i64 x.f6] T (0, 0))) :
  (execOp a.eval o).run Tryd.prog w = .ok (.value (nodeV x)) w := by
 have hh := run_loadVar_row w g T 77 #[.string x.f0, .string x.f1, .int .i64 x.f2, .int .i64 x.f3, .int .i64 x.f4, .int .i64 x.f5, .int .i64 x.f6] (0, 0) _ h Tryd.underlying77 rfl (by kernel_rfl)
 unfold execOp
 simp [ho, hx, Instr.loadAt, Instr.sureAddr, hh, nodeV]
theorem zeroNode (w : World) : (zeroValue 77).run Tryd.prog w = .ok (nodeV z77) w := (zero_of_info (P := Tryd.prog) (t := 77) (v := .agg #[.string (⟨#[]⟩ : ByteArray), .string (⟨#[]⟩ : ByteArray), .int .i64 0, .int .i64 0, .int .i64 0, .int .i64 0, .int .i64 0]) (n := 7) (by kernel_rfl)).1 w
theorem run_lookN {o : Oper} {a : Act} {q y : Operand} {w : World} {gm : Nat} {k : ByteArray} {m : List (ByteArray × S77)} {n : S77} (ho : o.op = .lookup 177 q y false) (hx : a.eval q = .map (some gm)) (hy : a.eval y = .string k) (hm : YtfiojiokmkiflaaDoorH.MapS nodeV w gm m) (hn : n = (YtfiojiokmkiflaaDoorH.aget m k).getD z77) :
  (execOp a.eval o).run Tryd.prog w = .ok (.value (nodeV n)) w := by
 have hh := YtfiojiokmkiflaaDoorH.run_lookup1 (YtfiojiokmkiflaaDoorH.str_key Tryd.underlying9) Tryd.underlying177 k (nodeV z77) zeroNode hm.is
 have hh2 : (Instr.lookup 177 (.map (some gm)) (.string k) false).run Tryd.prog w = .ok (nodeV n) w := by
  rw [hh, hn]; cases YtfiojiokmkiflaaDoorH.aget m k <;> rfl
 unfold execOp
 simp [ho, hx, hy, hh2]
theorem ne_mapS {w : World} {g gm T : Nat} {cs : Array Value} {f : Nat × Nat} {m : List (ByteArray × S77)} (h : w.heap[g]? = some (.cells cs T f)) (hm : YtfiojiokmkiflaaDoorH.MapS nodeV w gm m) : some g ≠ some gm := by
 intro e; injection e with e; subst e
 obtain ⟨es, c, h1, _⟩ := hm
 rw [h] at h1; cases h1
theorem cell_mapS {w : World} {a : Addr} {v : Value} {gm : Nat} {m : List (ByteArray × S77)} (h : w.cell? a = some v) (hm : YtfiojiokmkiflaaDoorH.MapS nodeV w gm m) : ¬ a.block = gm := by
 intro e
 obtain ⟨es, c, h1, _⟩ := hm
 rw [← e] at h1
 simp [World.cell?, h1] at h
theorem Grv.move {W W2 : World} {gp gm : Nat} {m : List (ByteArray × S77)} {z : Int} (h : Grv W gp gm m z) (h1 : W2.heap[gp]? = W.heap[gp]?) (h2 : W2.heap[gm]? = W.heap[gm]?) : Grv W2 gp gm m z := ⟨h1.trans h.bp, h.bm.move h2⟩
theorem Grv.below {W W2 : World} {gp gm : Nat} {m : List (ByteArray × S77)} {z : Int} (h : Grv W gp gm m z) (hb : Below W.heap.size W W2) : Grv W2 gp gm m z := h.move (hb.block _ (zt h.bp)) (hb.block _ h.bm.lt)
theorem Grv.drew {W : World} {gp gm : Nat} {m : List (ByteArray × S77)} {z : Int} (h : Grv W gp gm m z) : Grv W.drew gp gm m z := ⟨h.bp, h.bm⟩
theorem rdT_get (l : List S77) (i : Nat) (h : i < l.length) : rd_T77 l (i : Int) = l[i] := by simp [rd_T77, h]
theorem rdE_get (l : List S108) (i : Nat) (h : i < l.length) : rd_T108 l (i : Int) = l[i] := by simp [rd_T108, h]
set_option maxHeartbeats 4000000 in
set_option maxRecDepth 100000 in
theorem newGrove_c (W : World) (A : Option Addr) (c : Nat) (l : List S77) (z : Int) (hr : Kd.C k77 W A l.length l) (hl : l.length ≤ 100000000) :
  Calls Tryd.prog 64 #[.agg #[.slice A l.length c], .int .i64 z] W fun e w' => ∃ gp gm, e = .returned (.pointer (some ⟨gp, 0, none⟩)) ∧ Grv w' gp gm (gnew l) z ∧ W.heap.size ≤ gp ∧ W.heap.size ≤ gm ∧ Below W.heap.size W w' := by
 have HR := Aside0.mk hr
 have HLEN := Aside0.mk hl
 have hu1 := Tryd.underlying25
 have hu2 := Tryd.underlying77
 have hu3 := Tryd.underlying179
 have hmm := @run_makeMap Tryd.prog
 clear hr hl
 go_enter Tryd.func64, Tryd.ntmps64
 go_wp2_with (first | ((with_reducible refine zu (N := 2) rfl ?_); refine Go.Proofs.YtfiojiokmkiflaaDoorH.box_arr (cs := #[.slice A l.length c]) rfl (t := 25) rfl (N := 2) rfl rfl ?_; intro g2 hg2 w1 hA2 hb1; have HG2 := Aside0.mk hg2; have HA2 := Aside0.mk hA2; have HB1 := Aside0.mk hb1; clear hg2 hA2 hb1) | ((with_reducible refine zu (N := 11) rfl ?_); refine Go.Proofs.YtfiojiokmkiflaaDoorH.box_arr (cs := #[.map (some w1.heap.size), .int .i64 z]) rfl (t := 179) rfl (N := 11) rfl rfl ?_; intro g11 hg11 w2 hA11 hb2; have HG11 := Aside0.mk hg11; have hg_ : Grv w2 g11 w1.heap.size (gnew (l.take 0)) z := ⟨hA11, by rw [show gnew (l.take 0) = [] by simp [gnew]]; exact (YtfiojiokmkiflaaDoorH.MapS.made w1).move (hb2.block _ (by simp))⟩; have HGR := Aside0.mk hg_; have HB2 := Aside0.mk (zn HB1.out (zn (zh (Below.refl _ _) _) hb2)); have hcl : w2.cell? ⟨g2, 0, none⟩ = some (.slice A l.length c) := (zc ((hb2.block _ (by have := zt HA2.out; simp; omega)).trans (((zh (Below.refl w1.heap.size w1) _).block _ (zt HA2.out)).trans HA2.out)) 0).trans rfl; clear hA11 hb2 hg_ hg11))
 clear hcl
 have HGM : Aside0 (W.heap.size ≤ w1.heap.size ∧ W.heap.size ≤ g11) := ⟨HB1.out.size, by rw [HG11.out]; simp; have := HB1.out.size; omega⟩
 generalize hgm_ : w1.heap.size = gm at HGR HGM
 go_loopg [15] l.length (fun kq v15 w' => ∃ (i : Nat) (j : Int), v15 = .int .i64 j ∧ Aside0 (j = (i : Int) ∧ i + kq = l.length) ∧ Aside0 (Grv w' g11 gm (gnew (l.take i)) z) ∧ Aside0 (Below W.heap.size W w'))
 case atStart => exact ⟨0, 0, rfl, ⟨rfl, by omega⟩, HGR, HB2⟩
 case round =>
  obtain ⟨i, j, rfl, HI, HGR, HBR⟩ := hrel
  cases gk with
  | zero =>
   have c0 : decide (j < (l.length : Int)) = false := decide_eq_false (by have := HI.out; omega)
   have HGR2 : Aside0 (Grv wr g11 gm (gnew l) z) := ⟨by have h_ := HGR.out; have := HI.out; rw [List.take_of_length_le (by omega)] at h_; exact h_⟩
   go_wp2
   go_ret
   exact ⟨g11, gm, rfl, HGR2.out, HGM.out.2, HGM.out.1, HBR.out⟩
  | succ k2 =>
   have hlt : i < l.length := by have := HI.out; omega
   have p0 : 0 ≤ j := by have := HI.out; omega
   have q0 : j < (l.length : Int) := by have := HI.out; omega
   have c0 : decide (j < (l.length : Int)) = true := decide_eq_true q0
   obtain ⟨ad, eA, hx0, hx1, hx2, hx3, hx4, hx5, hx6⟩ := at_T77 HR.out j p0 q0
   cases eA
   replace hx0 := (HBR.out.cell (World.block_lt_of_cell? W _ hx0)).trans hx0
   replace hx1 := (HBR.out.cell (World.block_lt_of_cell? W _ hx1)).trans hx1
   replace hx2 := (HBR.out.cell (World.block_lt_of_cell? W _ hx2)).trans hx2
   replace hx3 := (HBR.out.cell (World.block_lt_of_cell? W _ hx3)).trans hx3
   replace hx4 := (HBR.out.cell (World.block_lt_of_cell? W _ hx4)).trans hx4
   replace hx5 := (HBR.out.cell (World.block_lt_of_cell? W _ hx5)).trans hx5
   replace hx6 := (HBR.out.cell (World.block_lt_of_cell? W _ hx6)).trans hx6
   obtain ⟨x, hxe⟩ : ∃ x, x = rd_T77 l j := ⟨_, rfl⟩
   rw [← hxe] at hx0 hx1 hx2 hx3 hx4 hx5 hx6
   have HXE : Aside0 (l.take (i + 1) = l.take i ++ [x]) := ⟨by rw [hxe, HI.out.1, rdT_get l i hlt, List.take_succ_eq_append_getElem hlt]⟩
   replace p0 := eq_true p0
   replace q0 := eq_true q0
   clear hxe hlt
   go_wp2_with (first | ((with_reducible refine zu (N := 7) rfl ?_); refine Go.Proofs.YtfiojiokmkiflaaDoorH.alloc_arr rfl (t := 77) rfl (N := 7) rfl (zs := #[.string (⟨#[]⟩ : ByteArray), .string (⟨#[]⟩ : ByteArray), .int .i64 0, .int .i64 0, .int .i64 0, .int .i64 0, .int .i64 0]) (n := 7) (by kernel_rfl) ?_; intro g7 hg7 w7 hA7 hb7 _; have HA7 := Aside0.mk hA7; have HGE7 := Aside0.mk (show W.heap.size ≤ g7 by rw [hg7]; exact HBR.out.size); have HN7 : Aside0 (g7 ≠ g11 ∧ g7 ≠ gm) := ⟨by have h1_ := zt HGR.out.bp; have h2_ := HGR.out.bm.lt; omega⟩; have HG7 := Aside0.mk (HGR.out.below hb7); have HB7 := Aside0.mk (zn HBR.out hb7); clear hg7 hA7 hb7) | (refine Go.Proofs.YtfiojiokmkiflaaDoorH.store_arr (g := g7) (cells := #[.string x.f0, .string x.f1, .int .i64 x.f2, .int .i64 x.f3, .int .i64 x.f4, .int .i64 x.f5, .int .i64 x.f6]) rfl (t := 77) rfl rfl rfl rfl HA7.out (by kernel_rfl) rfl (by kernel_rfl) ?_; intro w8 hA8 hg8; have HA8 := Aside0.mk hA8; have HG4p := Aside0.mk (Grv.move HG7.out (hg8.block _ (zt HG7.out.bp) (by intro e_; injection e_ with e_; exact HN7.out.1 e_.symm)) (hg8.block _ HG7.out.bm.lt (by intro e_; injection e_ with e_; exact HN7.out.2 e_.symm))); have HB8 := Aside0.mk (pw_below_grown HB7.out (some g7) HB7.out.size hg8 (fun k_ hk_ => by injection hk_ with hk_; rw [← hk_]; exact HGE7.out)); clear hA8 hg8))
   clear c0 p0 q0 hx0 hx1 hx2 hx3 hx4 hx5 hx6
   refine start_ (n := 8) (S := fun w' => w'.cell? ⟨g11, 0, none⟩ = some (.map (some gm)) ∧ w'.cell? ⟨g7, 0, none⟩ = some (.string x.f0) ∧ w'.heap[g7]? = some (.cells #[.string x.f0, .string x.f1, .int .i64 x.f2, .int .i64 x.f3, .int .i64 x.f4, .int .i64 x.f5, .int .i64 x.f6] 77 (0, 0))) (ds := []) #[false, false, false, false, false, false, false, false] (by kernel_rfl) rfl rfl ⟨(zc (HG4p.out.drew).bp 0).trans rfl, (zc (zl HA8.out) 0).trans rfl, zl HA8.out⟩ (fun hHeld => ?_)
   have HG4 := Aside0.mk HG4p.out.drew; have HB4 := Aside0.mk (below_drew HB8.out); generalize hw4_ : w8.drew = w4 at HG4 HB4 hHeld ⊢; clear hw4_
   refine pu 0 19 rfl rfl (by kernel_rfl) (fun _ _ _ _ h => h) (by rfl) ⟨_, _, fun w' => by go_simp; rfl, by simp only [pt, ps, p0, p1, zo, zp]; rfl, ?_⟩
   refine pu 1 20 rfl rfl (by kernel_rfl) (fun _ _ _ _ h => h) (by rfl) ⟨_, _, fun w' => by go_simp; rfl, by simp only [pt, ps, p0, p1, zo, zp]; rfl, ?_⟩
   refine pu 2 21 rfl rfl (by kernel_rfl) (fun _ _ _ _ h => h) (by rfl) ⟨_, _, fun w' => by go_simp; rfl, by simp only [pt, ps, p0, p1, zo, zp]; rfl, ?_⟩
   refine pu 4 23 rfl rfl (by kernel_rfl) (fun _ _ _ _ h => h) (by rfl) ⟨_, _, fun w' => by go_simp; rfl, by simp only [pt, ps, p0, p1, zo, zp]; rfl, ?_⟩
   refine ta 3 22 rfl rfl (by kernel_rfl) (fun _ _ _ _ h => h) (by rfl) hHeld ⟨_, _, by rintro w' ⟨s0, s1, s2⟩; go_simp; rfl, by simp only [pt, ps, p0, p1, zo, zp]; rfl, ?_⟩
   refine ta 5 24 rfl rfl (by kernel_rfl) (fun _ _ _ _ h => h) (by rfl) hHeld ⟨_, _, by rintro w' ⟨s0, s1, s2⟩; go_simp; rfl, by simp only [pt, ps, p0, p1, zo, zp]; rfl, ?_⟩
   refine take_ (i := 6) (N := some 25) (v := nodeV x) (a' := ?_) #[true, true, true, true, true, true, true, false] rfl rfl (by kernel_rfl) (fun _ _ _ h => h) (Or.inl ⟨by rfl, ?_⟩) hHeld ?_ ?_
   ·rintro w' ⟨s0, s1, s2⟩
    exact run_ldn (by rfl) (by rfl) s2
   rotate_left
   ·simp only [pt, ps, p0, p1, zo, zp]
    rfl
   refine one_ (i := 7) (N := none) #[true, true, true, true, true, true, true, true] rfl rfl (by kernel_rfl) (by decide) (fun K hK => ?_)
   obtain ⟨w5, hup, hm5, hg5, hs5⟩ := YtfiojiokmkiflaaDoorH.run_updateS Tryd.underlying9 Tryd.underlying177 x.f0 x HG4.out.bm
   refine skip_ (w1 := w5) (by rfl) rfl (run_exec_upd (by rfl) (by rfl) (by rfl) (by rfl) hup) ?_
   have HG5 : Aside0 (Grv w5 g11 gm (gput (gnew (l.take i)) x) z) := ⟨⟨blk_grown HG4.out.bp hg5 (ne_mapS HG4.out.bp HG4.out.bm), hm5⟩⟩
   refine hK.out _ _ ⟨(zc HG5.out.bp 0).trans rfl, (zc (blk_grown hHeld.2.2 hg5 (ne_mapS hHeld.2.2 HG4.out.bm)) 0).trans rfl, blk_grown hHeld.2.2 hg5 (ne_mapS hHeld.2.2 HG4.out.bm)⟩ (fun hHeld => ?_)
   have HG5b := Aside0.mk hg5
   clear hup hm5 hg5 hs5
   clear hK K
   refine done_ (by kernel_rfl) ?_
   have HJ2 : Aside0 (wrap64 (j + 1) = ((i + 1 : Nat) : Int)) := ⟨by have h1_ := HI.out; have h2_ := HLEN.out; unfold wrap64; omega⟩
   go_wp2
   go_roundg k2
   case measure => omega
   case rel =>
    refine ⟨i + 1, wrap64 (j + 1), rfl, ⟨HJ2.out, ?_⟩, ⟨?_⟩, ⟨?_⟩⟩
    ·have := HI.out; omega
    ·rw [HXE.out]
     have h_ := HG5.out
     unfold gnew at h_ ⊢
     rw [List.foldl_append]
     exact h_
    ·exact pw_below_grown HB4.out (some gm) HB4.out.size HG5b.out (fun k_ hk_ => by injection hk_ with hk_; rw [← hk_]; exact HGM.out.1)
theorem run_exec_del {P : Program} {o : Oper} {a : Act} {t k : TypeId} {x y : Operand} {X K : Value} {w w1 : World} (ho : o.op = .call { callee := .builtin .delete, args := #[x, y], argTypes := #[t, k] }) (hx : a.eval x = X) (hy : a.eval y = K) (h : (Builtin.delete_ #[t, k] o.type #[X, K]).run P w = .ok (.tuple #[]) w1) : (execOp a.eval o).run P w = .ok (.value (.tuple #[])) w1 := by
 unfold execOp
 simp [ho, resolve, invoke, builtin, hx, hy, h, Result.andThen]
theorem keptBelow {W W2 W3 : World} {gm : Nat} (h : Kept W W2 (fun k => k = gm)) (hb : Below W2.heap.size W2 W3) : Kept W W3 (fun k => k = gm) := h.below hb
theorem run_ldsub {o : Oper} {a : Act} {q : Operand} {w : World} {g T : Nat} {x : S77} {b : Bool} (ho : o.op = .load 77 q) (hx : a.eval q = .pointer (some ⟨g, 1, none⟩)) (h : w.heap[g]? = some (.cells #[.bool b, .string x.f0, .string x.f1, .int .i64 x.f2, .int .i64 x.f3, .int .i64 x.f4, .int .i64 x.f5, .int .i64 x.f6] T (0, 0))) :
  (execOp a.eval o).run Tryd.prog w = .ok (.value (nodeV x)) w := by
 have c : ∀ j v, #[.bool b, .string x.f0, .string x.f1, .int .i64 x.f2, .int .i64 x.f3, .int .i64 x.f4, .int .i64 x.f5, .int .i64 x.f6][j]? = some v → w.cell? ⟨g, j, none⟩ = some v := fun j v hv => (zc h j).trans hv
 have h1 := c 1 _ rfl
 have h2 := c 2 _ rfl
 have h3 := c 3 _ rfl
 have h4 := c 4 _ rfl
 have h5 := c 5 _ rfl
 have h6 := c 6 _ rfl
 have h7 := c 7 _ rfl
 have hu2 := Tryd.underlying77
 unfold execOp nodeV
 simp only [ho, hx]
 go_simp
set_option maxHeartbeats 4000000 in
set_option maxRecDepth 100000 in
theorem apply_c (W0 W : World) (gp gm : Nat) (m : List (ByteArray × S77)) (z zx : Int) (A : Option Addr) (c : Nat) (l : List S108) (hg : Grv W gp gm m z) (hr : Kd.C k108 W A l.length l) (hl : l.length ≤ 100000000) (hbl : Below W0.heap.size W0 W) (hge : W0.heap.size ≤ gm) :
  Calls Tryd.prog 65 #[.pointer (some ⟨gp, 0, none⟩), .agg #[.int .i64 zx, .slice A l.length c]] W fun e w' => e = .returned (.tuple #[]) ∧ Grv w' gp gm (l.foldl geff m) z ∧ Kept W w' (fun k => k = gm) ∧ Below W0.heap.size W0 w' := by
 have HR := Aside0.mk hr
 have HLEN := Aside0.mk hl
 have HG0 := Aside0.mk hg
 have HBL := Aside0.mk hbl
 have HGE := Aside0.mk hge
 have hu1 := Tryd.underlying55
 have hu2 := Tryd.underlying77
 have hu3 := Tryd.underlying179
 have hu4 := Tryd.underlying108
 clear hr hl hg hbl hge
 go_enter Tryd.func65, Tryd.ntmps65
 go_wp2_with (first | ((with_reducible refine zu (N := 3) rfl ?_); refine Go.Proofs.YtfiojiokmkiflaaDoorH.box_arr (cs := #[.int .i64 zx, .slice A l.length c]) rfl (t := 55) rfl (N := 3) rfl rfl ?_; intro g3 hg3 w1 hA3 hb1; have HGR := Aside0.mk (HG0.out.below hb1); have HKP : Aside0 (Kept W w1 (fun k => k = gm)) := ⟨Kept.of_below hb1 _⟩; have HBP := Aside0.mk (zn HBL.out hb1); have hcl : w1.cell? ⟨g3, 1, none⟩ = some (.slice A l.length c) := (zc hA3 1).trans rfl; clear hA3 hb1 hg3))
 clear hcl
 go_loopg [9] l.length (fun kq v9 w' => ∃ (i : Nat) (j : Int), v9 = .int .i64 j ∧ Aside0 (j = (i : Int) ∧ i + kq = l.length) ∧ Aside0 (Grv w' gp gm ((l.take i).foldl geff m) z) ∧ Aside0 (Kept W w' (fun k => k = gm)) ∧ Aside0 (Below W0.heap.size W0 w'))
 case atStart => exact ⟨0, 0, rfl, ⟨rfl, by omega⟩, ⟨by rw [List.take_zero]; exact HGR.out⟩, HKP, HBP⟩
 case round =>
  clear HGR HKP HBP
  obtain ⟨i, j, rfl, HI, HGR, HKP, HBP⟩ := hrel
  cases gk with
  | zero =>
   have c0 : decide (j < (l.length : Int)) = false := decide_eq_false (by have := HI.out; omega)
   have HGR2 : Aside0 (Grv wr gp gm (l.foldl geff m) z) := ⟨by have h_ := HGR.out; have := HI.out; rw [List.take_of_length_le (by omega)] at h_; exact h_⟩
   go_wp2
   go_end0
   exact ⟨rfl, HGR2.out, HKP.out, HBP.out⟩
  | succ k2 =>
   have hlt : i < l.length := by have := HI.out; omega
   have p0 : 0 ≤ j := by have := HI.out; omega
   have q0 : j < (l.length : Int) := by have := HI.out; omega
   have c0 : decide (j < (l.length : Int)) = true := decide_eq_true q0
   obtain ⟨ad, eA, hx0, hx1, hx2, hx3, hx4, hx5, hx6, hx7⟩ := at_T108 HR.out j p0 q0
   cases eA
   replace hx0 := cell_kept hx0 HKP.out (cell_mapS hx0 HG0.out.bm)
   replace hx1 := cell_kept hx1 HKP.out (cell_mapS hx1 HG0.out.bm)
   replace hx2 := cell_kept hx2 HKP.out (cell_mapS hx2 HG0.out.bm)
   replace hx3 := cell_kept hx3 HKP.out (cell_mapS hx3 HG0.out.bm)
   replace hx4 := cell_kept hx4 HKP.out (cell_mapS hx4 HG0.out.bm)
   replace hx5 := cell_kept hx5 HKP.out (cell_mapS hx5 HG0.out.bm)
   replace hx6 := cell_kept hx6 HKP.out (cell_mapS hx6 HG0.out.bm)
   replace hx7 := cell_kept hx7 HKP.out (cell_mapS hx7 HG0.out.bm)
   obtain ⟨x, hxe⟩ : ∃ x, x = (rd_T108 l j).f1 := ⟨_, rfl⟩
   obtain ⟨dl, hde⟩ : ∃ b, b = (rd_T108 l j).f0 := ⟨_, rfl⟩
   rw [← hde] at hx0
   rw [← hxe] at hx1 hx2 hx3 hx4 hx5 hx6 hx7
   have HXE : Aside0 (l.take (i + 1) = l.take i ++ [(⟨dl, x⟩ : S108)]) := ⟨by rw [hxe, hde, HI.out.1, rdE_get l i hlt, List.take_succ_eq_append_getElem hlt]⟩
   have HJ2 : Aside0 (wrap64 (j + 1) = ((i + 1 : Nat) : Int)) := ⟨by have h1_ := HI.out; have h2_ := HLEN.out; unfold wrap64; omega⟩
   replace p0 := eq_true p0
   replace q0 := eq_true q0
   clear hxe hde hlt
   cases dl with
   | true =>
    go_wp2_with (first | ((with_reducible refine zu (N := 5) rfl ?_); refine Go.Proofs.YtfiojiokmkiflaaDoorH.alloc_arr rfl (t := 108) rfl (N := 5) rfl (zs := #[.bool false, .string (⟨#[]⟩ : ByteArray), .string (⟨#[]⟩ : ByteArray), .int .i64 0, .int .i64 0, .int .i64 0, .int .i64 0, .int .i64 0]) (n := 8) (by kernel_rfl) ?_; intro g5 hg5 w7 hA7 hb7 _; have HA7 := Aside0.mk hA7; have HN7 : Aside0 (g5 ≠ gp ∧ g5 ≠ gm ∧ wr.heap.size ≤ g5) := ⟨by have h1_ := zt HGR.out.bp; have h2_ := HGR.out.bm.lt; omega⟩; have HG7 := Aside0.mk (HGR.out.below hb7); have HK7 := Aside0.mk (keptBelow HKP.out hb7); have HB7 := Aside0.mk (zn HBP.out hb7); clear hg5 hA7 hb7) | (refine Go.Proofs.YtfiojiokmkiflaaDoorH.store_arr (g := g5) (cells := #[.bool true, .string x.f0, .string x.f1, .int .i64 x.f2, .int .i64 x.f3, .int .i64 x.f4, .int .i64 x.f5, .int .i64 x.f6]) rfl (t := 108) rfl rfl rfl rfl HA7.out (by kernel_rfl) rfl (by kernel_rfl) ?_; intro w8 hA8 hg8; have HA8 := Aside0.mk hA8; have HG4p := Aside0.mk (Grv.move HG7.out (hg8.block _ (zt HG7.out.bp) (by intro e_; injection e_ with e_; exact HN7.out.1 e_.symm)) (hg8.block _ HG7.out.bm.lt (by intro e_; injection e_ with e_; exact HN7.out.2.1 e_.symm))); have HK8 : Aside0 (Kept W w8 (fun k => k = gm)) := ⟨Kept.of_grown hg8 HK7.out (fun k_ hk_ => by injection hk_ with hk_; rw [← hk_]; have h1_ := HN7.out.2.2; have h2_ := HKP.out.1; exact .inr (by omega))⟩; have HB8 := Aside0.mk (pw_below_grown HB7.out (some g5) HB7.out.size hg8 (fun k_ hk_ => by injection hk_ with hk_; rw [← hk_]; exact Nat.le_trans HBP.out.size HN7.out.2.2)); have hz0 : w8.cell? ⟨g5, 0, none⟩ = some (.bool true) := (zc HA8.out 0).trans rfl; clear hA8 hg8))
    clear c0 p0 q0 hx0 hx1 hx2 hx3 hx4 hx5 hx6 hx7
    refine start_ (n := 8) (S := fun w' => w'.cell? ⟨gp, 0, none⟩ = some (.map (some gm)) ∧ w'.cell? ⟨g5, 1, none⟩ = some (.string x.f0) ∧ w'.heap[g5]? = some (.cells #[.bool true, .string x.f0, .string x.f1, .int .i64 x.f2, .int .i64 x.f3, .int .i64 x.f4, .int .i64 x.f5, .int .i64 x.f6] 108 (0, 0))) (ds := []) #[false, false, false, false, false, false, false, false] (by kernel_rfl) rfl rfl ⟨(zc (HG4p.out.drew).bp 0).trans rfl, (zc (zl HA8.out) 1).trans rfl, zl HA8.out⟩ (fun hHeld => ?_)
    have HG4 := Aside0.mk HG4p.out.drew; have HK4 := Aside0.mk (Kept.drew HK8.out); have HB4 := Aside0.mk (below_drew HB8.out); generalize hw4_ : w8.drew = w4 at HG4 HK4 HB4 hHeld ⊢; clear hw4_ hz0
    refine pu 0 15 rfl rfl (by kernel_rfl) (fun _ _ _ _ h => h) (by rfl) ⟨_, _, fun w' => by go_simp; rfl, by simp only [pt, ps, p0, p1, zo, zp]; rfl, ?_⟩
    refine pu 1 16 rfl rfl (by kernel_rfl) (fun _ _ _ _ h => h) (by rfl) ⟨_, _, fun w' => by go_simp; rfl, by simp only [pt, ps, p0, p1, zo, zp]; rfl, ?_⟩
    refine pu 2 17 rfl rfl (by kernel_rfl) (fun _ _ _ _ h => h) (by rfl) ⟨_, _, fun w' => by go_simp; rfl, by simp only [pt, ps, p0, p1, zo, zp]; rfl, ?_⟩
    refine pu 4 19 rfl rfl (by kernel_rfl) (fun _ _ _ _ h => h) (by rfl) ⟨_, _, fun w' => by go_simp; rfl, by simp only [pt, ps, p0, p1, zo, zp]; rfl, ?_⟩
    refine pu 5 20 rfl rfl (by kernel_rfl) (fun _ _ _ _ h => h) (by rfl) ⟨_, _, fun w' => by go_simp; rfl, by simp only [pt, ps, p0, p1, zo, zp]; rfl, ?_⟩
    refine ta 3 18 rfl rfl (by kernel_rfl) (fun _ _ _ _ h => h) (by rfl) hHeld ⟨_, _, by rintro w' ⟨s0, s1, s2⟩; go_simp; rfl, by simp only [pt, ps, p0, p1, zo, zp]; rfl, ?_⟩
    refine ta 6 21 rfl rfl (by kernel_rfl) (fun _ _ _ _ h => h) (by rfl) hHeld ⟨_, _, by rintro w' ⟨s0, s1, s2⟩; go_simp; rfl, by simp only [pt, ps, p0, p1, zo, zp]; rfl, ?_⟩
    refine one_ (i := 7) (N := none) #[true, true, true, true, true, true, true, true] rfl rfl (by kernel_rfl) (by decide) (fun K hK => ?_)
    obtain ⟨w5, hup, hm5, hg5, hs5⟩ := YtfiojiokmkiflaaDoorH.run_deleteS Tryd.underlying9 Tryd.underlying177 x.f0 _ HG4.out.bm
    refine value_ (w1 := w5) (by rfl) rfl (run_exec_del (by rfl) (by rfl) (by rfl) hup) ?_
    have HG5 : Aside0 (Grv w5 gp gm (YtfiojiokmkiflaaDoorH.adel ((l.take i).foldl geff m) x.f0) z) := ⟨⟨blk_grown HG4.out.bp hg5 (ne_mapS HG4.out.bp HG4.out.bm), hm5⟩⟩
    refine hK.out _ _ ⟨(zc HG5.out.bp 0).trans rfl, (zc (blk_grown hHeld.2.2 hg5 (ne_mapS hHeld.2.2 HG4.out.bm)) 1).trans rfl, blk_grown hHeld.2.2 hg5 (ne_mapS hHeld.2.2 HG4.out.bm)⟩ (fun hHeld => ?_)
    have HG5b := Aside0.mk hg5
    clear hup hm5 hg5 hs5
    clear hK K
    refine done_ (by kernel_rfl) ?_
    go_wp2
    go_roundg k2
    case measure => omega
    case rel =>
     refine ⟨i + 1, wrap64 (j + 1), rfl, ⟨HJ2.out, ?_⟩, ⟨?_⟩, ⟨?_⟩, ⟨pw_below_grown HB4.out (some gm) HB4.out.size HG5b.out (fun k_ hk_ => by injection hk_ with hk_; rw [← hk_]; exact HGE.out)⟩⟩
     ·have := HI.out; omega
     ·rw [HXE.out, List.foldl_append]
      exact HG5.out
     ·exact Kept.of_grown HG5b.out HK4.out (fun k_ hk_ => by injection hk_ with hk_; exact .inl hk_.symm)
   | false =>
    go_wp2_with (first | ((with_reducible refine zu (N := 5) rfl ?_); refine Go.Proofs.YtfiojiokmkiflaaDoorH.alloc_arr rfl (t := 108) rfl (N := 5) rfl (zs := #[.bool false, .string (⟨#[]⟩ : ByteArray), .string (⟨#[]⟩ : ByteArray), .int .i64 0, .int .i64 0, .int .i64 0, .int .i64 0, .int .i64 0]) (n := 8) (by kernel_rfl) ?_; intro g5 hg5 w7 hA7 hb7 _; have HA7 := Aside0.mk hA7; have HN7 : Aside0 (g5 ≠ gp ∧ g5 ≠ gm ∧ wr.heap.size ≤ g5) := ⟨by have h1_ := zt HGR.out.bp; have h2_ := HGR.out.bm.lt; omega⟩; have HG7 := Aside0.mk (HGR.out.below hb7); have HK7 := Aside0.mk (keptBelow HKP.out hb7); have HB7 := Aside0.mk (zn HBP.out hb7); clear hg5 hA7 hb7) | (refine Go.Proofs.YtfiojiokmkiflaaDoorH.store_arr (g := g5) (cells := #[.bool false, .string x.f0, .string x.f1, .int .i64 x.f2, .int .i64 x.f3, .int .i64 x.f4, .int .i64 x.f5, .int .i64 x.f6]) rfl (t := 108) rfl rfl rfl rfl HA7.out (by kernel_rfl) rfl (by kernel_rfl) ?_; intro w8 hA8 hg8; have HA8 := Aside0.mk hA8; have HG4p := Aside0.mk (Grv.move HG7.out (hg8.block _ (zt HG7.out.bp) (by intro e_; injection e_ with e_; exact HN7.out.1 e_.symm)) (hg8.block _ HG7.out.bm.lt (by intro e_; injection e_ with e_; exact HN7.out.2.1 e_.symm))); have HK8 : Aside0 (Kept W w8 (fun k => k = gm)) := ⟨Kept.of_grown hg8 HK7.out (fun k_ hk_ => by injection hk_ with hk_; rw [← hk_]; have h1_ := HN7.out.2.2; have h2_ := HKP.out.1; exact .inr (by omega))⟩; have HB8 := Aside0.mk (pw_below_grown HB7.out (some g5) HB7.out.size hg8 (fun k_ hk_ => by injection hk_ with hk_; rw [← hk_]; exact Nat.le_trans HBP.out.size HN7.out.2.2)); have hz0 : w8.cell? ⟨g5, 0, none⟩ = some (.bool false) := (zc HA8.out 0).trans rfl; clear hA8 hg8))
    clear c0 p0 q0 hx0 hx1 hx2 hx3 hx4 hx5 hx6 hx7
    refine start_ (n := 10) (S := fun w' => w'.cell? ⟨gp, 0, none⟩ = some (.map (some gm)) ∧ w'.cell? ⟨g5, 1, none⟩ = some (.string x.f0) ∧ w'.heap[g5]? = some (.cells #[.bool false, .string x.f0, .string x.f1, .int .i64 x.f2, .int .i64 x.f3, .int .i64 x.f4, .int .i64 x.f5, .int .i64 x.f6] 108 (0, 0))) (ds := []) #[false, false, false, false, false, false, false, false, false, false] (by kernel_rfl) rfl rfl ⟨(zc (HG4p.out.drew).bp 0).trans rfl, (zc (zl HA8.out) 1).trans rfl, zl HA8.out⟩ (fun hHeld => ?_)
    have HG4 := Aside0.mk HG4p.out.drew; have HK4 := Aside0.mk (Kept.drew HK8.out); have HB4 := Aside0.mk (below_drew HB8.out); generalize hw4_ : w8.drew = w4 at HG4 HK4 HB4 hHeld ⊢; clear hw4_ hz0
    refine pu 0 22 rfl rfl (by kernel_rfl) (fun _ _ _ _ h => h) (by rfl) ⟨_, _, fun w' => by go_simp; rfl, by simp only [pt, ps, p0, p1, zo, zp]; rfl, ?_⟩
    refine pu 1 23 rfl rfl (by kernel_rfl) (fun _ _ _ _ h => h) (by rfl) ⟨_, _, fun w' => by go_simp; rfl, by simp only [pt, ps, p0, p1, zo, zp]; rfl, ?_⟩
    refine pu 2 24 rfl rfl (by kernel_rfl) (fun _ _ _ _ h => h) (by rfl) ⟨_, _, fun w' => by go_simp; rfl, by simp only [pt, ps, p0, p1, zo, zp]; rfl, ?_⟩
    refine pu 4 26 rfl rfl (by kernel_rfl) (fun _ _ _ _ h => h) (by rfl) ⟨_, _, fun w' => by go_simp; rfl, by simp only [pt, ps, p0, p1, zo, zp]; rfl, ?_⟩
    refine pu 5 27 rfl rfl (by kernel_rfl) (fun _ _ _ _ h => h) (by rfl) ⟨_, _, fun w' => by go_simp; rfl, by simp only [pt, ps, p0, p1, zo, zp]; rfl, ?_⟩
    refine pu 7 29 rfl rfl (by kernel_rfl) (fun _ _ _ _ h => h) (by rfl) ⟨_, _, fun w' => by go_simp; rfl, by simp only [pt, ps, p0, p1, zo, zp]; rfl, ?_⟩
    refine ta 3 25 rfl rfl (by kernel_rfl) (fun _ _ _ _ h => h) (by rfl) hHeld ⟨_, _, by rintro w' ⟨s0, s1, s2⟩; go_simp; rfl, by simp only [pt, ps, p0, p1, zo, zp]; rfl, ?_⟩
    refine ta 6 28 rfl rfl (by kernel_rfl) (fun _ _ _ _ h => h) (by rfl) hHeld ⟨_, _, by rintro w' ⟨s0, s1, s2⟩; go_simp; rfl, by simp only [pt, ps, p0, p1, zo, zp]; rfl, ?_⟩
    refine take_ (i := 8) (N := some 30) (v := nodeV x) (a' := ?_) #[true, true, true, true, true, true, true, true, true, false] rfl rfl (by kernel_rfl) (fun _ _ _ h => h) (Or.inl ⟨by rfl, ?_⟩) hHeld ?_ ?_
    ·rintro w' ⟨s0, s1, s2⟩
     exact run_ldsub (by rfl) (by rfl) s2
    rotate_left
    ·simp only [pt, ps, p0, p1, zo, zp]
     rfl
    refine one_ (i := 9) (N := none) #[true, true, true, true, true, true, true, true, true, true] rfl rfl (by kernel_rfl) (by decide) (fun K hK => ?_)
    obtain ⟨w5, hup, hm5, hg5, hs5⟩ := YtfiojiokmkiflaaDoorH.run_updateS Tryd.underlying9 Tryd.underlying177 x.f0 x HG4.out.bm
    refine skip_ (w1 := w5) (by rfl) rfl (run_exec_upd (by rfl) (by rfl) (by rfl) (by rfl) hup) ?_
    have HG5 : Aside0 (Grv w5 gp gm (gput ((l.take i).foldl geff m) x) z) := ⟨⟨blk_grown HG4.out.bp hg5 (ne_mapS HG4.out.bp HG4.out.bm), hm5⟩⟩
    refine hK.out _ _ ⟨(zc HG5.out.bp 0).trans rfl, (zc (blk_grown hHeld.2.2 hg5 (ne_mapS hHeld.2.2 HG4.out.bm)) 1).trans rfl, blk_grown hHeld.2.2 hg5 (ne_mapS hHeld.2.2 HG4.out.bm)⟩ (fun hHeld => ?_)
    have HG5b := Aside0.mk hg5
    clear hup hm5 hg5 hs5
    clear hK K
    refine done_ (by kernel_rfl) ?_
    go_wp2
    go_roundg k2
    case measure => omega
    case rel =>
     refine ⟨i + 1, wrap64 (j + 1), rfl, ⟨HJ2.out, ?_⟩, ⟨?_⟩, ⟨?_⟩, ⟨pw_below_grown HB4.out (some gm) HB4.out.size HG5b.out (fun k_ hk_ => by injection hk_ with hk_; rw [← hk_]; exact HGE.out)⟩⟩
     ·have := HI.out; omega
     ·rw [HXE.out, List.foldl_append]
      exact HG5.out
     ·exact Kept.of_grown HG5b.out HK4.out (fun k_ hk_ => by injection hk_ with hk_; exact .inl hk_.symm)
theorem Kd.R_own_ge' {α : Type} {d : Kd α} {e B : Nat} {W : World} {ok : Nat → Prop} {v : Value} {xs : List α} (h : d.R e W B ok v xs) : ∀ k, v.ownBlock = some k → B ≤ k := fun k hk => ((Kd.R_bound h).1 k hk).2.1
theorem Kd.R_apart_t {α β : Type} {d : Kd α} {d' : Kd β} {e e' B B' : Nat} {W : World} {ok ok' : Nat → Prop} {v v' : Value} {xs : List α} {ys : List β} (h : d.R e W B ok v xs) (h' : d'.R e' W B' ok' v' ys) (hne : e ≠ e') : ∀ k, v.ownBlock = some k → some k ≠ v'.ownBlock := by
 intro k hk e_
 obtain ⟨c1, h1⟩ := Kd.R_typed h k hk
 obtain ⟨c2, h2⟩ := Kd.R_typed h' k e_.symm
 rw [h1] at h2
 injection h2 with h2
 injection h2 with _ h2
 exact hne h2
theorem infoNd_ : (Tryd.prog.info? 77).map (fun i => (i.zero, i.size, i.bytes)) = some (some (.agg #[.string (⟨#[]⟩ : ByteArray), .string (⟨#[]⟩ : ByteArray), .int .i64 0, .int .i64 0, .int .i64 0, .int .i64 0, .int .i64 0]), 7, 72) := by kernel_rfl
theorem gkeys_len (m : List (ByteArray × S77)) : (gkeys m).length = m.length := by simp [gkeys, List.length_mergeSort]
theorem sorted_c (W wk : World) (gm : Nat) (m : List (ByteArray × S77)) (hwk : wk = W.alloc (.cells #[.map (some gm)] 177)) (hm : YtfiojiokmkiflaaDoorH.MapS nodeV W gm m) (hl : m.length ≤ 1000000 ∧ ∀ p ∈ m, p.1.size ≤ maxLen) :
  Calls Tryd.prog 106 #[.func (.func 135) #[] #[.pointer (some ⟨W.heap.size, 0, none⟩)]] wk fun e w' => ∃ v, e = .returned v ∧ Kd.R Kd.string 9 w' W.heap.size (fun _ => True) v (gkeys m) ∧ Below W.heap.size W w' := by
 subst hwk
 obtain ⟨D, h1, h2, h3⟩ := hm.owns (K := 9) (P := Tryd.prog) Tryd.underlying9 hl.2 (by unfold maxLen; omega)
 refine (Go.callsIn_wide.1 (Go.Proofs.Tryd.slices_Sorted_keys_106_107 gm m.length D YtfiojiokmkiflaaDoorH.nilR W h1 (by unfold maxLen; omega) (by omega))).mono ?_
 rintro e w' ⟨v, ss, rfl, hS, hrow, _, hb⟩
 have e1 : (ss.mergeSort fun x y => decide (x ≤ y)) = (m.map fun p => p.1.data.toList).mergeSort fun x y => decide (x ≤ y) := Go.mergeSort_of_perm (hS.trans h2)
 have hlen : (gkeys m).length = ss.length := by
  rw [gkeys_len, ← List.length_map (f := fun p : ByteArray × S77 => p.1.data.toList)]
  exact (hS.trans h2).length_eq.symm
 have hs2 : W.heap.size ≤ (W.alloc (.cells #[.map (some gm)] 177)).heap.size := by simp
 refine ⟨v, rfl, Kd.R_of_own (enc := Value.string) (h1 := fun _ => rfl) ?_ (fun _ _ => trivial), zn (zh (Below.refl _ _) _) hb⟩
 rw [hlen]
 have e2 : encs Value.string (gkeys m) = (ss.mergeSort fun x y => decide (x ≤ y)).map Go.Proofs.encStr := by
  rw [e1]
  unfold gkeys encs
  rw [List.map_map]
  rfl
 rw [e2]
 exact own_less hrow hs2
set_option maxHeartbeats 4000000 in
set_option maxRecDepth 100000 in
theorem tree_c (W : World) (gp gm : Nat) (m : List (ByteArray × S77)) (z : Int) (hg : Grv W gp gm m z) (hl : m.length ≤ 1000000 ∧ ∀ p ∈ m, p.1.size ≤ maxLen) :
  Calls Tryd.prog 66 #[.pointer (some ⟨gp, 0, none⟩)] W fun e w' => ∃ v, e = .returned (.agg #[v]) ∧ Kd.R k77 77 w' W.heap.size (fun _ => True) v (gtree m) ∧ Below W.heap.size W w' := by
 have HLN := Aside0.mk hl
 have HG0 := Aside0.mk hg
 have hu1 := Tryd.underlying25
 have hu2 := Tryd.underlying77
 have hu3 := Tryd.underlying179
 clear hl hg
 go_enter Tryd.func66, Tryd.ntmps66
 go_wp2_with (first | ((with_reducible refine zu (N := 2) rfl ?_); refine Go.Proofs.YtfiojiokmkiflaaDoorH.alloc_arr rfl (t := 25) rfl (N := 2) rfl (zs := #[.slice none 0 0]) (n := 1) (by kernel_rfl) ?_; intro g2 hg2 w2 hA2 hb2 _; have HA2 := Aside0.mk hA2; have HG2 := Aside0.mk hg2; have HB2 := Aside0.mk hb2; clear hA2 hg2 hb2) | ((with_reducible refine zu (N := 3) rfl ?_); refine Go.Proofs.YtfiojiokmkiflaaDoorH.alloc_arr rfl (t := 25) rfl (N := 3) rfl (zs := #[.slice none 0 0]) (n := 1) (by kernel_rfl) ?_; intro g3 hg3 w3 hA3 hb3 _; have HA3 := Aside0.mk hA3; have HA23 := Aside0.mk ((hb3.block _ (zt HA2.out)).trans HA2.out); have HN3 : Aside0 (W.heap.size ≤ g2 ∧ g2 < g3 ∧ gp < W.heap.size ∧ gm < W.heap.size) := ⟨by have h1_ := zt HA2.out; have h2_ := HG2.out; have h3_ := zt HG0.out.bp; have h4_ := HG0.out.bm.lt; omega⟩; have HB3 := Aside0.mk (zn HB2.out hb3); have HG3 := Aside0.mk (HG0.out.below HB3.out); have hcm : w3.cell? ⟨gp, 0, none⟩ = some (.map (some gm)) := (zc HG3.out.bp 0).trans rfl; clear hA3 hg3 hb3) | ((with_reducible refine zr (f := 107) rfl ?_); refine zz (some 10) rfl rfl Tryd.func107 (by kernel_rfl) rfl #[.map (some gm)] rfl (by (try simp only [List.map_toArray, List.map_cons, List.map_nil]); first | done | rfl) ?_; refine (Go.callsIn_wide.1 (Go.Proofs.Tryd.maps_Keys_107 (some gm) w3)).mono ?_; rintro e wk ⟨rfl, hwk⟩; refine ⟨_, rfl, ?_⟩; have HWK := Aside0.mk hwk; clear hwk) | ((with_reducible refine zr (f := 106) rfl ?_); refine zz (some 11) rfl rfl Tryd.func106 (by kernel_rfl) rfl #[.func (.func 135) #[] #[.pointer (some ⟨w3.heap.size, 0, none⟩)]] rfl (by (try simp only [List.map_toArray, List.map_cons, List.map_nil]); first | done | rfl) ?_; refine (sorted_c w3 wk gm m HWK.out HG3.out.bm HLN.out).mono ?_; rintro e w4 ⟨vk, rfl, hrk, hb4⟩; refine ⟨_, rfl, ?_⟩; have HRK4 := Aside0.mk hrk; have HB4 := Aside0.mk hb4; obtain ⟨AK, cK, eK⟩ := Kd.R_slice hrk; subst eK; clear hrk hb4))
 clear hcm
 have HGK0 := Aside0.mk (gkeys_len m)
 obtain ⟨kys, hgk⟩ : ∃ q, q = gkeys m := ⟨_, rfl⟩
 have HGT : Aside0 (gtree m = kys.map fun k => (YtfiojiokmkiflaaDoorH.aget m k).getD z77) := ⟨by rw [hgk]; rfl⟩
 rw [← hgk] at HRK4 ⊢
 have HGK : Aside0 (kys.length = m.length ∧ True) := ⟨by rw [hgk]; exact HGK0.out, trivial⟩
 have HLK := Aside0.mk (gkeys_len m)
 clear HGK0 hgk
 have HT4 := Aside0.mk ((HB4.out.block _ (zt HA3.out)).trans HA3.out)
 have H24 := Aside0.mk ((HB4.out.block _ (zt HA23.out)).trans HA23.out)
 have HBW4 := Aside0.mk (zn HB3.out HB4.out)
 have HRKL := Aside0.mk (Kd.R_lower HRK4.out HB3.out.size)
 clear HRK4
 go_loopg [13] kys.length (fun kq v13 w' => ∃ (i : Nat) (j : Int) (vT : Value), v13 = .int .i64 j ∧ Aside0 (j = (i : Int) ∧ i + kq = kys.length) ∧ Aside0 (w'.heap[g3]? = some (.cells #[vT] 25 (0, 0))) ∧ Aside0 (w'.heap[g2]? = some (.cells #[.slice none 0 0] 25 (0, 0))) ∧
  Aside0 (Kd.R k77 77 w' W.heap.size (fun _ => True) vT ((kys.take i).map fun k => (YtfiojiokmkiflaaDoorH.aget m k).getD z77)) ∧ Aside0 (Kd.R Kd.string 9 w' W.heap.size (fun _ => True) (.slice AK kys.length cK) kys) ∧ Aside0 (Below W.heap.size W w'))
 case atStart => exact ⟨0, 0, _, rfl, ⟨rfl, by omega⟩, HT4, H24, ⟨by rw [List.take_zero]; exact Kd.R_nil _ _ _ _ _⟩, HRKL, HBW4⟩
 case round =>
  clear HT4 H24 HBW4 HRKL
  obtain ⟨i, j, vT, rfl, HI, HT5, H25, HRT5, HRK5, HB5⟩ := hrel
  cases gk with
  | zero =>
   have c0 : decide (j < (kys.length : Int)) = false := decide_eq_false (by have := HI.out; omega)
   have HRT : Aside0 (Kd.R k77 77 wr W.heap.size (fun _ => True) vT (gtree m)) := ⟨by have h_ := HRT5.out; have := HI.out; rw [List.take_of_length_le (by omega), ← HGT.out] at h_; exact h_⟩
   obtain ⟨AT, cT, eT⟩ := Kd.R_slice HRT.out
   subst eT
   have hct : wr.cell? ⟨g3, 0, none⟩ = some (.slice AT (gtree m).length cT) := (zc HT5.out 0).trans rfl
   go_wp2_with (first | (refine Go.Proofs.YtfiojiokmkiflaaDoorH.store_arr (g := g2) (cells := #[.slice AT (gtree m).length cT]) rfl (t := 25) rfl rfl rfl rfl H25.out (by kernel_rfl) rfl (by kernel_rfl) ?_; intro w9 hA9_ hg9_; have HA9 := Aside0.mk hA9_; have HG9 := Aside0.mk hg9_; clear hA9_ hg9_))

   refine bodyPost_ret (results_cell_row rfl _ _ g2 25 _ (0, 0) _ rfl HA9.out Tryd.underlying25 rfl (by kernel_rfl)) rfl ?_
   exact ⟨_, rfl, Kd.R_mono (Kd.R_grown (Kd.R_types HRT.out H25.out (by decide)) HG9.out (fun k_ hk_ e_ => hk_.2 (by injection e_))) (fun _ _ => trivial), pw_below_grown HB5.out (some g2) HB5.out.size HG9.out (fun k_ hk_ => by injection hk_ with hk_; rw [← hk_]; exact HN3.out.1)⟩
  | succ k2 =>
   have hlt : i < kys.length := by have := HI.out; omega
   have p0 : 0 ≤ j := by have := HI.out; omega
   have q0 : j < (kys.length : Int) := by have := HI.out; omega
   have c0 : decide (j < (kys.length : Int)) = true := decide_eq_true q0
   obtain ⟨ad, eA, hx0⟩ := Kd.at_string (Kd.R_reads' HRK5.out).2.2 j p0 q0
   cases eA
   obtain ⟨x, hxe⟩ : ∃ x, x = (YtfiojiokmkiflaaDoorH.aget m (rdOf ByteArray.empty kys j)).getD z77 := ⟨_, rfl⟩
   have HX := Aside0.mk hxe
   have HXE : Aside0 ((kys.take (i + 1)).map (fun k => (YtfiojiokmkiflaaDoorH.aget m k).getD z77) = (kys.take i).map (fun k => (YtfiojiokmkiflaaDoorH.aget m k).getD z77) ++ [x]) := ⟨by rw [hxe, HI.out.1, List.take_succ_eq_append_getElem hlt, List.map_append]; simp [rdOf, hlt]⟩
   have HJ2 : Aside0 (wrap64 (j + 1) = ((i + 1 : Nat) : Int)) := ⟨by have h1_ := HI.out; have h2_ := HLN.out.1; have h3_ := HGK.out.1; unfold wrap64; omega⟩
   obtain ⟨AT, cT, eT⟩ := Kd.R_slice HRT5.out
   obtain ⟨nT, hnT⟩ : ∃ n_, n_ = ((kys.take i).map fun k => (YtfiojiokmkiflaaDoorH.aget m k).getD z77).length := ⟨_, rfl⟩
   rw [← hnT] at eT
   subst eT
   have HNT := Aside0.mk hnT
   replace p0 := eq_true p0
   replace q0 := eq_true q0
   clear hxe hlt hnT
   go_wp2
   clear c0 p0 q0 hx0
   refine start_ (n := 12) (S := fun w' => w'.cell? ⟨g3, 0, none⟩ = some (.slice AT nT cT) ∧ w'.cell? ⟨gp, 0, none⟩ = some (.map (some gm)) ∧ YtfiojiokmkiflaaDoorH.MapS nodeV w' gm m) (ds := [11]) #[false, false, false, false, false, false, false, false, false, false, false, false] (by kernel_rfl) rfl rfl ⟨(zc (zl HT5.out) 0).trans rfl, (zc (HG0.out.below HB5.out).drew.bp 0).trans rfl, (HG0.out.below HB5.out).drew.bm⟩ (fun hHeld => ?_)
   have HT5d := Aside0.mk (zl HT5.out); have H25d := Aside0.mk (zl H25.out); have HRT5d := Aside0.mk (Kd.R_drew HRT5.out); have HRK5d := Aside0.mk (Kd.R_drew HRK5.out); have HB5d := Aside0.mk (below_drew HB5.out); generalize hw5_ : wr.drew = w5 at HT5d H25d HRT5d HRK5d HB5d hHeld ⊢; clear hw5_
   refine pu 0 17 rfl rfl (by kernel_rfl) (fun _ _ _ _ h => h) (by rfl) ⟨_, _, fun w' => by go_simp; rfl, by simp only [pt, ps, p0, p1, zo, zp]; rfl, ?_⟩
   refine pu 2 19 rfl rfl (by kernel_rfl) (fun _ _ _ _ h => h) (by rfl) ⟨_, _, fun w' => by go_simp; rfl, by simp only [pt, ps, p0, p1, zo, zp]; rfl, ?_⟩
   refine pu 3 20 rfl rfl (by kernel_rfl) (fun _ _ _ _ h => h) (by rfl) ⟨_, _, fun w' => by go_simp; rfl, by simp only [pt, ps, p0, p1, zo, zp]; rfl, ?_⟩
   refine pu 4 21 rfl rfl (by kernel_rfl) (fun _ _ _ _ h => h) (by rfl) ⟨_, _, fun w' => by go_simp; rfl, by simp only [pt, ps, p0, p1, zo, zp]; rfl, ?_⟩
   refine pu 6 23 rfl rfl (by kernel_rfl) (fun _ _ _ _ h => h) (by rfl) ⟨_, _, fun w' => by go_simp; rfl, by simp only [pt, ps, p0, p1, zo, zp]; rfl, ?_⟩
   refine ta 1 18 rfl rfl (by kernel_rfl) (fun _ _ _ _ h => h) (by rfl) hHeld ⟨_, _, by rintro w' ⟨s0, s1, s2⟩; go_simp; rfl, by simp only [pt, ps, p0, p1, zo, zp]; rfl, ?_⟩
   refine ta 5 22 rfl rfl (by kernel_rfl) (fun _ _ _ _ h => h) (by rfl) hHeld ⟨_, _, by rintro w' ⟨s0, s1, s2⟩; go_simp; rfl, by simp only [pt, ps, p0, p1, zo, zp]; rfl, ?_⟩
   refine take_ (i := 7) (N := some 24) (v := .agg #[.string x.f0, .string x.f1, .int .i64 x.f2, .int .i64 x.f3, .int .i64 x.f4, .int .i64 x.f5, .int .i64 x.f6]) (a' := ?_) #[true, true, true, true, true, true, true, true, false, false, false, false] rfl rfl (by kernel_rfl) (fun _ _ _ h => h) (Or.inl ⟨by rfl, ?_⟩) hHeld ?_ ?_
   ·rintro w' ⟨s0, s1, s2⟩
    exact run_lookN (by rfl) (by rfl) (by rfl) s2 HX.out
   rotate_left
   ·simp only [pt, ps, p0, p1, zo, zp]
    rfl
   refine one_ (i := 8) (N := some 25) #[true, true, true, true, true, true, true, true, true, false, false, false] rfl rfl (by kernel_rfl) (by decide) (fun K hK => ?_)
   refine value_ (w1 := ?_) (v := ?_) (by rfl) rfl ?_ ?_
   rotate_left 2
   ·go_simp
    constructor
    ·rfl
    ·rfl
   have HT6 := Aside0.mk (zj HT5d.out (.cells #[.string x.f0, .string x.f1, .int .i64 x.f2, .int .i64 x.f3, .int .i64 x.f4, .int .i64 x.f5, .int .i64 x.f6] 77 (0, 0)))
   have H26 := Aside0.mk (zj H25d.out (.cells #[.string x.f0, .string x.f1, .int .i64 x.f2, .int .i64 x.f3, .int .i64 x.f4, .int .i64 x.f5, .int .i64 x.f6] 77 (0, 0)))
   have HRT6 := Aside0.mk (Kd.R_alloc HRT5d.out (.cells #[.string x.f0, .string x.f1, .int .i64 x.f2, .int .i64 x.f3, .int .i64 x.f4, .int .i64 x.f5, .int .i64 x.f6] 77 (0, 0)))
   have HRK6 := Aside0.mk (Kd.R_alloc HRK5d.out (.cells #[.string x.f0, .string x.f1, .int .i64 x.f2, .int .i64 x.f3, .int .i64 x.f4, .int .i64 x.f5, .int .i64 x.f6] 77 (0, 0)))
   have HB6 := Aside0.mk (zh HB5d.out (.cells #[.string x.f0, .string x.f1, .int .i64 x.f2, .int .i64 x.f3, .int .i64 x.f4, .int .i64 x.f5, .int .i64 x.f6] 77 (0, 0)))
   refine hK.out _ _ ⟨(zc HT6.out 0).trans rfl, (zc (HG0.out.below HB6.out).bp 0).trans rfl, (HG0.out.below HB6.out).bm⟩ (fun hHeld => ?_)
   clear hK K
   refine norm_ (a' := ?_) ?_ ?_
   rotate_left
   ·show Act.put _ (some 25) _ = _
    simp only [pt, ps, p0, p1, zo, zp]
    rfl
   refine one_ (i := 9) (N := some 26) #[true, true, true, true, true, true, true, true, true, true, false, false] rfl rfl (by kernel_rfl) (by decide) (fun K hK => ?_)
   refine Kd.R_append_step k77 (w0 := W) W.heap.size (by rfl) (.tmp 18) (.tmp 25) 23 77 (.agg #[.string (⟨#[]⟩ : ByteArray), .string (⟨#[]⟩ : ByteArray), .int .i64 0, .int .i64 0, .int .i64 0, .int .i64 0, .int .i64 0]) 72 rfl Tryd.underlying23 infoNd_ rfl (by decide) (by omega) (.slice AT nT cT) ((kys.take i).map fun k => (YtfiojiokmkiflaaDoorH.aget m k).getD z77) x [.string x.f0, .string x.f1, .int .i64 x.f2, .int .i64 x.f3, .int .i64 x.f4, .int .i64 x.f5, .int .i64 x.f6] (fun _ => True) (fun _ => False) rfl rfl ?aP ?aQ ?aF ?aO ?aB ?aS ?aL ?_
   (case aP => exact k77_mkM _ _ _ _)
   (case aQ => exact fun _ hk_ => hk_.elim)
   (case aF => exact fun _ _ => trivial)
   (case aO => exact HRT5d.out)
   (case aB => exact HB5d.out)
   (case aS => exact HB5d.out.size)
   (case aL => have h1_ := HLN.out.1; have h2_ := HGK.out.1; have h3_ := HI.out; simp only [List.length_map, List.length_take]; omega)
   intro vT7 w7 zA hb7 hg7 hat7
   obtain ⟨pn, hpn⟩ : ∃ p_, p_ = ((kys.take i).map fun k => (YtfiojiokmkiflaaDoorH.aget m k).getD z77) ++ [x] := ⟨_, rfl⟩
   rw [← hpn] at zA
   have HPN := Aside0.mk hpn
   clear hpn
   have zB := Aside0.mk zA
   have HB7 := Aside0.mk hb7
   have HG7 := Aside0.mk hg7
   have HNB : Aside0 (∀ k_, (Value.slice AT nT cT).ownBlock = some k_ → W.heap.size ≤ k_ ∧ k_ ≠ g3 ∧ k_ ≠ g2) := ⟨fun k_ hk_ => ⟨Kd.R_own_ge' HRT5d.out k_ hk_, fun e_ => Kd.R_ne HRT5d.out HT5d.out (by decide) (by rw [← e_]; exact hk_.symm), fun e_ => Kd.R_ne HRT5d.out H25d.out (by decide) (by rw [← e_]; exact hk_.symm)⟩⟩
   have HT7 := Aside0.mk (blk_grown HT5d.out hg7 (Kd.R_ne HRT5d.out HT5d.out (by decide)))
   have H27 := Aside0.mk (blk_grown H25d.out hg7 (Kd.R_ne HRT5d.out H25d.out (by decide)))
   have HRK7 := Aside0.mk (Kd.R_grown2 HRK5d.out rfl hg7 (fun k_ hk_ => Kd.R_apart_t HRT5d.out HRK5d.out (by decide) k_ hk_))
   clear zA hb7 hg7 hat7
   refine hK.out _ _ ⟨(zc HT7.out 0).trans rfl, (zc (HG0.out.below HB7.out).bp 0).trans rfl, (HG0.out.below HB7.out).bm⟩ (fun hHeld => ?_)
   clear hK K
   refine norm_ (a' := ?_) ?_ ?_
   rotate_left
   ·show Act.put _ (some 26) _ = _
    simp only [pt, ps, p0, p1, zo, zp]
    rfl
   refine pu 10 27 rfl rfl (by kernel_rfl) (fun _ _ _ _ h => h) (by rfl) ⟨_, _, fun w' => by go_simp; rfl, by simp only [pt, ps, p0, p1, zo, zp]; rfl, ?_⟩
   refine last_ (i := 11) (N := none) #[true, true, true, true, true, true, true, true, true, true, true, true] rfl rfl (by kernel_rfl) (by decide) (fun K hK => ?_)
   obtain ⟨A7, c7, e7⟩ := Kd.R_slice zB.out
   subst e7
   have hc7 := (zc HT7.out 0)
   have hf7 := ze HT7.out 0
   refine skip_ (w1 := w7.setCell ⟨g3, 0, none⟩ (.slice A7 pn.length c7)) (by rfl) rfl ?_ ?_
   ·go_simp
   refine hK.out _ _ ?_
   clear hK K
   refine done_ (by kernel_rfl) ?_
   go_wp2
   go_roundg k2
   case measure => omega
   case rel =>
    refine ⟨i + 1, wrap64 (j + 1), _, rfl, ⟨HJ2.out, ?_⟩, ⟨blk_set HT7.out 0 _⟩, ⟨zw H27.out (by have := HN3.out; intro e_; simp only at e_; omega) _⟩, ⟨?_⟩, ⟨?_⟩, ⟨?_⟩⟩
    ·have := HI.out; omega
    ·rw [HXE.out, ← HPN.out]
     exact Kd.R_mono (Kd.R_far (Kd.R_types zB.out HT7.out (by decide)) (p := ⟨g3, 0, none⟩) (fun k_ hk_ => hk_.2) _) (fun _ _ => trivial)
    ·exact Kd.R_mono (Kd.R_far (Kd.R_types HRK7.out HT7.out (by decide)) (p := ⟨g3, 0, none⟩) (fun k_ hk_ => hk_.2) _) (fun _ _ => trivial)
    ·exact zd HB7.out (by have := HN3.out; show W.heap.size ≤ g3; omega)
def impl_ApplyTxn.f (k : Nat) (l0_0 : List S77) (a1_0 : Int) (l1_1 : List S108) : Option (List S77) := (impl_ValidTree.f k l0_0).bind fun t => if t = true then ((impl_ValidTxn.f k a1_0 l1_1).bind fun u => if u = true then (if (l0_0.length ≤ 100000000 ∧ l1_1.length ≤ 100000000) ∧ (l1_1.foldl geff (gnew l0_0)).length ≤ 1000000 ∧ (l1_1.foldl geff (gnew l0_0)).all (fun p => decide (p.1.size ≤ maxLen)) = true then some (gtree (l1_1.foldl geff (gnew l0_0))) else none) else some []) else some []
theorem impl_ApplyTxn.mono : ∀ a0 a1 a2 k, LeO (impl_ApplyTxn.f k a0 a1 a2) (impl_ApplyTxn.f (k + 1) a0 a1 a2) := by
 intro a0 a1 a2 k
 unfold impl_ApplyTxn.f
 refine LeO.bind (impl_ValidTree.mono _ _) (fun t => LeO.ite (LeO.bind (impl_ValidTxn.mono _ _ _) (fun u => LeO.refl _)) (LeO.refl _))
set_option maxHeartbeats 8000000 in
set_option maxRecDepth 100000 in
theorem impl_ApplyTxn.calls (k : Nat) (A0_0 : Option Addr) (c0_0 : Nat) (l0_0 : List (S77)) (a1_0 : Int) (A1_1 : Option Addr) (c1_1 : Nat) (l1_1 : List (S108)) (r : List (S77)) (w : World) (hr0_0 : Kd.C k77 w A0_0 l0_0.length l0_0) (hc0_0 : l0_0.length ≤ c0_0) (hr1_1 : Kd.C k108 w A1_1 l1_1.length l1_1) (hc1_1 : l1_1.length ≤ c1_1) (h : impl_ApplyTxn.f k l0_0 a1_0 l1_1 = some r) (hGMAX_ : Go.Proofs.YtfiojiokmkiflaaDoorH.GFMAX w) :
  Calls Tryd.prog 21 #[.agg #[.slice A0_0 l0_0.length c0_0], .agg #[.int .i64 a1_0, .slice A1_1 l1_1.length c1_1]] w fun e w' => ∃ v0_ : Value, e = .returned (.agg #[v0_]) ∧ Kd.R k77 77 w' w.heap.size (fun _ => True) v0_ r ∧ Below w.heap.size w w' := by
 have HR0 := Aside0.mk hr0_0
 have HC0 := Aside0.mk hc0_0
 have HR1 := Aside0.mk hr1_1
 have HC1 := Aside0.mk hc1_1
 have HGM := Aside0.mk hGMAX_
 have hu1 := Tryd.underlying25
 have hu2 := Tryd.underlying55
 clear hr0_0 hc0_0 hr1_1 hc1_1 hGMAX_
 unfold impl_ApplyTxn.f at h
 obtain ⟨t, hv, h⟩ := Option.bind_eq_some_iff.mp h
 have HV := Aside0.mk hv
 clear hv
 cases t with
 | false =>
  rw [if_neg (by decide)] at h
  obtain rfl := Option.some.inj h
  clear h
  go_enter Tryd.func21, Tryd.ntmps21
  go_wp2_with (first | ((with_reducible refine zu (N := 2) rfl ?_); refine Go.Proofs.YtfiojiokmkiflaaDoorH.box_arr (cs := #[.slice A0_0 l0_0.length c0_0]) rfl (t := 25) rfl (N := 2) rfl rfl ?_; intro g2 hg2 w1 hA2 hb1; have HA2 := Aside0.mk hA2; have HB1 := Aside0.mk hb1; clear hg2 hA2 hb1) | ((with_reducible refine zu (N := 3) rfl ?_); refine Go.Proofs.YtfiojiokmkiflaaDoorH.box_arr (cs := #[.int .i64 a1_0, .slice A1_1 l1_1.length c1_1]) rfl (t := 55) rfl (N := 3) rfl rfl ?_; intro g3 hg3 w2 hA3 hb2; have HA3 := Aside0.mk hA3; have HA2b := Aside0.mk ((hb2.block _ (zt HA2.out)).trans HA2.out); have HB2 := Aside0.mk (zn HB1.out hb2); clear hg3 hA3 hb2) | ((with_reducible refine zu (N := 4) rfl ?_); refine Go.Proofs.YtfiojiokmkiflaaDoorH.alloc_arr rfl (t := 25) rfl (N := 4) rfl (zs := #[.slice none 0 0]) (n := 1) (by kernel_rfl) ?_; intro g4 hg4 w3 hA4 hb3 _; have HA4 := Aside0.mk hA4; have HGE := Aside0.mk (show w.heap.size ≤ g4 by rw [hg4]; exact HB2.out.size); have HA23 := Aside0.mk ((hb3.block _ (zt HA2b.out)).trans HA2b.out); have HA33 := Aside0.mk ((hb3.block _ (zt HA3.out)).trans HA3.out); have HB3 := Aside0.mk (zn HB2.out hb3); have hc0 : w3.cell? ⟨g2, 0, none⟩ = some (.slice A0_0 l0_0.length c0_0) := (zc HA23.out 0).trans rfl; have HB3b := HB3; clear hg4 hA4 hb3) | ((with_reducible refine zr (f := 9) rfl ?_); (try (refine gate_guard (by rfl) ?_; dsimp only)); refine zz (some 7) rfl rfl Tryd.func9 (by kernel_rfl) rfl #[.agg #[.slice A0_0 l0_0.length c0_0]] rfl (by (try simp only [List.map_toArray, List.map_cons, List.map_nil]); first | done | rfl) ?_; refine (impl_ValidTree.calls k A0_0 c0_0 l0_0 false w3 (Kd.C_below HR0.out HB3.out) HC0.out HV.out (Go.Proofs.YtfiojiokmkiflaaDoorH.GFMAX.below HGM.out HB3.out)).mono ?_; rintro e w4 ⟨rfl, hb_⟩; refine ⟨_, rfl, ?_⟩; have HA44 := Aside0.mk ((hb_.block _ (zt HA4.out)).trans HA4.out); have HA24 := Aside0.mk ((hb_.block _ (zt HA23.out)).trans HA23.out); have HA34 := Aside0.mk ((hb_.block _ (zt HA33.out)).trans HA33.out); have HB4 := Aside0.mk (zn HB3.out hb_); have hc1 : w4.cell? ⟨g3, 0, none⟩ = some (.int .i64 a1_0) := (zc HA34.out 0).trans rfl; have hc2 : w4.cell? ⟨g3, 1, none⟩ = some (.slice A1_1 l1_1.length c1_1) := (zc HA34.out 1).trans rfl; clear hb_ hc0) | (refine Go.Proofs.YtfiojiokmkiflaaDoorH.store_arr (g := g4) (cells := #[.slice none 0 0]) rfl (t := 25) rfl rfl rfl rfl HA44.out (by kernel_rfl) rfl (by kernel_rfl) ?_; intro w9 hA9_ hg9_; have HA9 := Aside0.mk hA9_; have HG9 := Aside0.mk hg9_; have HB9 := Aside0.mk (pw_below_grown HB4.out (some g4) HB4.out.size hg9_ (fun k_ hk_ => by injection hk_ with hk_; rw [← hk_]; exact HGE.out)); clear hA9_ hg9_))
  refine bodyPost_ret (results_cell_row rfl _ _ g4 25 _ (0, 0) _ rfl HA9.out Tryd.underlying25 rfl (by kernel_rfl)) rfl ?_
  exact ⟨_, rfl, Kd.R_nil _ _ _ _ _, HB9.out⟩
 | true =>
  rw [if_pos rfl] at h
  obtain ⟨u, hx, h⟩ := Option.bind_eq_some_iff.mp h
  have HX := Aside0.mk hx
  clear hx
  cases u with
  | false =>
   rw [if_neg (by decide)] at h
   obtain rfl := Option.some.inj h
   clear h
   go_enter Tryd.func21, Tryd.ntmps21
   go_wp2_with (first | ((with_reducible refine zu (N := 2) rfl ?_); refine Go.Proofs.YtfiojiokmkiflaaDoorH.box_arr (cs := #[.slice A0_0 l0_0.length c0_0]) rfl (t := 25) rfl (N := 2) rfl rfl ?_; intro g2 hg2 w1 hA2 hb1; have HA2 := Aside0.mk hA2; have HB1 := Aside0.mk hb1; clear hg2 hA2 hb1) | ((with_reducible refine zu (N := 3) rfl ?_); refine Go.Proofs.YtfiojiokmkiflaaDoorH.box_arr (cs := #[.int .i64 a1_0, .slice A1_1 l1_1.length c1_1]) rfl (t := 55) rfl (N := 3) rfl rfl ?_; intro g3 hg3 w2 hA3 hb2; have HA3 := Aside0.mk hA3; have HA2b := Aside0.mk ((hb2.block _ (zt HA2.out)).trans HA2.out); have HB2 := Aside0.mk (zn HB1.out hb2); clear hg3 hA3 hb2) | ((with_reducible refine zu (N := 4) rfl ?_); refine Go.Proofs.YtfiojiokmkiflaaDoorH.alloc_arr rfl (t := 25) rfl (N := 4) rfl (zs := #[.slice none 0 0]) (n := 1) (by kernel_rfl) ?_; intro g4 hg4 w3 hA4 hb3 _; have HA4 := Aside0.mk hA4; have HGE := Aside0.mk (show w.heap.size ≤ g4 by rw [hg4]; exact HB2.out.size); have HA23 := Aside0.mk ((hb3.block _ (zt HA2b.out)).trans HA2b.out); have HA33 := Aside0.mk ((hb3.block _ (zt HA3.out)).trans HA3.out); have HB3 := Aside0.mk (zn HB2.out hb3); have hc0 : w3.cell? ⟨g2, 0, none⟩ = some (.slice A0_0 l0_0.length c0_0) := (zc HA23.out 0).trans rfl; have HB3b := HB3; clear hg4 hA4 hb3) | ((with_reducible refine zr (f := 9) rfl ?_); (try (refine gate_guard (by rfl) ?_; dsimp only)); refine zz (some 7) rfl rfl Tryd.func9 (by kernel_rfl) rfl #[.agg #[.slice A0_0 l0_0.length c0_0]] rfl (by (try simp only [List.map_toArray, List.map_cons, List.map_nil]); first | done | rfl) ?_; refine (impl_ValidTree.calls k A0_0 c0_0 l0_0 true w3 (Kd.C_below HR0.out HB3.out) HC0.out HV.out (Go.Proofs.YtfiojiokmkiflaaDoorH.GFMAX.below HGM.out HB3.out)).mono ?_; rintro e w4 ⟨rfl, hb_⟩; refine ⟨_, rfl, ?_⟩; have HA44 := Aside0.mk ((hb_.block _ (zt HA4.out)).trans HA4.out); have HA24 := Aside0.mk ((hb_.block _ (zt HA23.out)).trans HA23.out); have HA34 := Aside0.mk ((hb_.block _ (zt HA33.out)).trans HA33.out); have HB4 := Aside0.mk (zn HB3.out hb_); have hc1 : w4.cell? ⟨g3, 0, none⟩ = some (.int .i64 a1_0) := (zc HA34.out 0).trans rfl; have hc2 : w4.cell? ⟨g3, 1, none⟩ = some (.slice A1_1 l1_1.length c1_1) := (zc HA34.out 1).trans rfl; clear hb_ hc0) | ((with_reducible refine zr (f := 63) rfl ?_); (try (refine gate_guard (by rfl) ?_; dsimp only)); refine zz (some 11) rfl rfl Tryd.func63 (by kernel_rfl) rfl #[.agg #[.int .i64 a1_0, .slice A1_1 l1_1.length c1_1]] rfl (by (try simp only [List.map_toArray, List.map_cons, List.map_nil]); first | done | rfl) ?_; refine (impl_ValidTxn.calls k a1_0 A1_1 c1_1 l1_1 false w4 (Kd.C_below HR1.out HB4.out) HC1.out HX.out (Go.Proofs.YtfiojiokmkiflaaDoorH.GFMAX.below HGM.out HB4.out)).mono ?_; rintro e w5 ⟨rfl, hb_⟩; refine ⟨_, rfl, ?_⟩; have HA45 := Aside0.mk ((hb_.block _ (zt HA44.out)).trans HA44.out); have HA25 := Aside0.mk ((hb_.block _ (zt HA24.out)).trans HA24.out); have HA35 := Aside0.mk ((hb_.block _ (zt HA34.out)).trans HA34.out); have HB5 := Aside0.mk (zn HB4.out hb_); have hc3 : w5.cell? ⟨g2, 0, none⟩ = some (.slice A0_0 l0_0.length c0_0) := (zc HA25.out 0).trans rfl; clear hb_ hc1 hc2) | (refine Go.Proofs.YtfiojiokmkiflaaDoorH.store_arr (g := g4) (cells := #[.slice none 0 0]) rfl (t := 25) rfl rfl rfl rfl HA45.out (by kernel_rfl) rfl (by kernel_rfl) ?_; intro w9 hA9_ hg9_; have HA9 := Aside0.mk hA9_; have HG9 := Aside0.mk hg9_; have HB9 := Aside0.mk (pw_below_grown HB5.out (some g4) HB5.out.size hg9_ (fun k_ hk_ => by injection hk_ with hk_; rw [← hk_]; exact HGE.out)); clear hA9_ hg9_))
   refine bodyPost_ret (results_cell_row rfl _ _ g4 25 _ (0, 0) _ rfl HA9.out Tryd.underlying25 rfl (by kernel_rfl)) rfl ?_
   exact ⟨_, rfl, Kd.R_nil _ _ _ _ _, HB9.out⟩
  | true =>
   rw [if_pos rfl] at h
   split at h
   ·rename_i hg
    obtain rfl := Option.some.inj h
    have HL := Aside0.mk hg.1
    have HM : Aside0 ((l1_1.foldl geff (gnew l0_0)).length ≤ 1000000 ∧ ∀ p ∈ l1_1.foldl geff (gnew l0_0), p.1.size ≤ maxLen) := ⟨hg.2.1, fun p hp => of_decide_eq_true (List.all_eq_true.mp hg.2.2 p hp)⟩
    clear hg h
    go_enter Tryd.func21, Tryd.ntmps21
    go_wp2_with (first | ((with_reducible refine zu (N := 2) rfl ?_); refine Go.Proofs.YtfiojiokmkiflaaDoorH.box_arr (cs := #[.slice A0_0 l0_0.length c0_0]) rfl (t := 25) rfl (N := 2) rfl rfl ?_; intro g2 hg2 w1 hA2 hb1; have HA2 := Aside0.mk hA2; have HB1 := Aside0.mk hb1; clear hg2 hA2 hb1) | ((with_reducible refine zu (N := 3) rfl ?_); refine Go.Proofs.YtfiojiokmkiflaaDoorH.box_arr (cs := #[.int .i64 a1_0, .slice A1_1 l1_1.length c1_1]) rfl (t := 55) rfl (N := 3) rfl rfl ?_; intro g3 hg3 w2 hA3 hb2; have HA3 := Aside0.mk hA3; have HA2b := Aside0.mk ((hb2.block _ (zt HA2.out)).trans HA2.out); have HB2 := Aside0.mk (zn HB1.out hb2); clear hg3 hA3 hb2) | ((with_reducible refine zu (N := 4) rfl ?_); refine Go.Proofs.YtfiojiokmkiflaaDoorH.alloc_arr rfl (t := 25) rfl (N := 4) rfl (zs := #[.slice none 0 0]) (n := 1) (by kernel_rfl) ?_; intro g4 hg4 w3 hA4 hb3 _; have HA4 := Aside0.mk hA4; have HGE := Aside0.mk (show w.heap.size ≤ g4 by rw [hg4]; exact HB2.out.size); have HA23 := Aside0.mk ((hb3.block _ (zt HA2b.out)).trans HA2b.out); have HA33 := Aside0.mk ((hb3.block _ (zt HA3.out)).trans HA3.out); have HB3 := Aside0.mk (zn HB2.out hb3); have hc0 : w3.cell? ⟨g2, 0, none⟩ = some (.slice A0_0 l0_0.length c0_0) := (zc HA23.out 0).trans rfl; have HB3b := HB3; clear hg4 hA4 hb3) | ((with_reducible refine zr (f := 9) rfl ?_); (try (refine gate_guard (by rfl) ?_; dsimp only)); refine zz (some 7) rfl rfl Tryd.func9 (by kernel_rfl) rfl #[.agg #[.slice A0_0 l0_0.length c0_0]] rfl (by (try simp only [List.map_toArray, List.map_cons, List.map_nil]); first | done | rfl) ?_; refine (impl_ValidTree.calls k A0_0 c0_0 l0_0 true w3 (Kd.C_below HR0.out HB3.out) HC0.out HV.out (Go.Proofs.YtfiojiokmkiflaaDoorH.GFMAX.below HGM.out HB3.out)).mono ?_; rintro e w4 ⟨rfl, hb_⟩; refine ⟨_, rfl, ?_⟩; have HA44 := Aside0.mk ((hb_.block _ (zt HA4.out)).trans HA4.out); have HA24 := Aside0.mk ((hb_.block _ (zt HA23.out)).trans HA23.out); have HA34 := Aside0.mk ((hb_.block _ (zt HA33.out)).trans HA33.out); have HB4 := Aside0.mk (zn HB3.out hb_); have hc1 : w4.cell? ⟨g3, 0, none⟩ = some (.int .i64 a1_0) := (zc HA34.out 0).trans rfl; have hc2 : w4.cell? ⟨g3, 1, none⟩ = some (.slice A1_1 l1_1.length c1_1) := (zc HA34.out 1).trans rfl; clear hb_ hc0) | ((with_reducible refine zr (f := 63) rfl ?_); (try (refine gate_guard (by rfl) ?_; dsimp only)); refine zz (some 11) rfl rfl Tryd.func63 (by kernel_rfl) rfl #[.agg #[.int .i64 a1_0, .slice A1_1 l1_1.length c1_1]] rfl (by (try simp only [List.map_toArray, List.map_cons, List.map_nil]); first | done | rfl) ?_; refine (impl_ValidTxn.calls k a1_0 A1_1 c1_1 l1_1 true w4 (Kd.C_below HR1.out HB4.out) HC1.out HX.out (Go.Proofs.YtfiojiokmkiflaaDoorH.GFMAX.below HGM.out HB4.out)).mono ?_; rintro e w5 ⟨rfl, hb_⟩; refine ⟨_, rfl, ?_⟩; have HA45 := Aside0.mk ((hb_.block _ (zt HA44.out)).trans HA44.out); have HA25 := Aside0.mk ((hb_.block _ (zt HA24.out)).trans HA24.out); have HA35 := Aside0.mk ((hb_.block _ (zt HA34.out)).trans HA34.out); have HB5 := Aside0.mk (zn HB4.out hb_); have hc3 : w5.cell? ⟨g2, 0, none⟩ = some (.slice A0_0 l0_0.length c0_0) := (zc HA25.out 0).trans rfl; clear hb_ hc1 hc2) | ((with_reducible refine zr (f := 64) rfl ?_); (try (refine gate_guard (by rfl) ?_; dsimp only)); refine zz (some 16) rfl rfl Tryd.func64 (by kernel_rfl) rfl #[.agg #[.slice A0_0 l0_0.length c0_0], .int .i64 0] rfl (by (try simp only [List.map_toArray, List.map_cons, List.map_nil]); first | done | rfl) ?_; refine (newGrove_c w5 A0_0 c0_0 l0_0 0 (Kd.C_below HR0.out HB5.out) HL.out.1).mono ?_; rintro e w6 ⟨gp, gm, rfl, hgr, hgp, hgm, hb_⟩; refine ⟨_, rfl, ?_⟩; have HGR := Aside0.mk hgr; have HGE6 : Aside0 (w.heap.size ≤ gm ∧ w5.heap.size ≤ gm) := ⟨by have := HB5.out.size; omega⟩; have HA46 := Aside0.mk ((hb_.block _ (zt HA45.out)).trans HA45.out); have HA36 := Aside0.mk ((hb_.block _ (zt HA35.out)).trans HA35.out); have HB6 := Aside0.mk (zn HB5.out hb_); have HNE : Aside0 (g3 ≠ gm ∧ g4 ≠ gm) := ⟨by have h1_ := zt HA35.out; have h2_ := zt HA45.out; omega⟩; have hc4 : w6.cell? ⟨g3, 0, none⟩ = some (.int .i64 a1_0) := (zc HA36.out 0).trans rfl; have hc5 : w6.cell? ⟨g3, 1, none⟩ = some (.slice A1_1 l1_1.length c1_1) := (zc HA36.out 1).trans rfl; clear hgr hgp hgm hb_ hc3) | ((with_reducible refine zr (f := 65) rfl ?_); refine zz (some 19) rfl rfl Tryd.func65 (by kernel_rfl) rfl #[.pointer (some ⟨gp, 0, none⟩), .agg #[.int .i64 a1_0, .slice A1_1 l1_1.length c1_1]] rfl (by (try simp only [List.map_toArray, List.map_cons, List.map_nil]); first | done | rfl) ?_; refine (apply_c w w6 gp gm (gnew l0_0) 0 a1_0 A1_1 c1_1 l1_1 HGR.out (Kd.C_below HR1.out HB6.out) HL.out.2 HB6.out HGE6.out.1).mono ?_; rintro e w7 ⟨rfl, hgr, hk_, hb_⟩; refine ⟨_, rfl, ?_⟩; have HGR7 := Aside0.mk hgr; have HA47 := Aside0.mk ((hk_.2 _ (zt HA46.out) HNE.out.2).trans HA46.out); have HB7 := Aside0.mk hb_; clear hgr hk_ hb_ hc4 hc5) | ((with_reducible refine zr (f := 66) rfl ?_); (try (refine gate_guard (by rfl) ?_; dsimp only)); refine zz (some 21) rfl rfl Tryd.func66 (by kernel_rfl) rfl #[.pointer (some ⟨gp, 0, none⟩)] rfl (by (try simp only [List.map_toArray, List.map_cons, List.map_nil]); first | done | rfl) ?_; refine (tree_c w7 gp gm (l1_1.foldl geff (gnew l0_0)) 0 HGR7.out HM.out).mono ?_; rintro e w8 ⟨v8, rfl, hr8, hb_⟩; refine ⟨_, rfl, ?_⟩; obtain ⟨A8, c8, e8⟩ := Kd.R_slice hr8; subst e8; have HR8 := Aside0.mk (Kd.R_lower hr8 HB7.out.size); have HA48 := Aside0.mk ((hb_.block _ (zt HA47.out)).trans HA47.out); have HB8 := Aside0.mk (zn HB7.out hb_); clear hr8 hb_) | (refine Go.Proofs.YtfiojiokmkiflaaDoorH.store_arr (g := g4) (cells := #[.slice A8 (gtree (l1_1.foldl geff (gnew l0_0))).length c8]) rfl (t := 25) rfl rfl rfl rfl HA48.out (by kernel_rfl) rfl (by kernel_rfl) ?_; intro w9 hA9_ hg9_; have HA9 := Aside0.mk hA9_; have HG9 := Aside0.mk hg9_; have HB9 := Aside0.mk (pw_below_grown HB8.out (some g4) HB8.out.size hg9_ (fun k_ hk_ => by injection hk_ with hk_; rw [← hk_]; exact HGE.out)); clear hA9_ hg9_))
    refine bodyPost_ret (results_cell_row rfl _ _ g4 25 _ (0, 0) _ rfl HA9.out Tryd.underlying25 rfl (by kernel_rfl)) rfl ?_
    exact ⟨_, rfl, Kd.R_mono (Kd.R_grown (Kd.R_types HR8.out HA48.out (by decide)) HG9.out (fun k_ hk_ e_ => hk_.2 (by injection e_))) (fun _ _ => trivial), HB9.out⟩
   ·cases h

def laws_eqNode.f (a0_0 : ByteArray) (a0_1 : ByteArray) (a0_2 : Int) (a0_3 : Int) (a0_4 : Int) (a0_5 : Int) (a0_6 : Int) (a1_0 : ByteArray) (a1_1 : ByteArray) (a1_2 : Int) (a1_3 : Int) (a1_4 : Int) (a1_5 : Int) (a1_6 : Int) : Option (Bool) := if a0_0.toList = a1_0.toList then (if a0_1.toList = a1_1.toList then (if a0_2 = a1_2 then (if a0_3 = a1_3 then (if a0_4 = a1_4 then (if a0_5 = a1_5 then (if a0_6 = a1_6 then (some true) else none) else none) else none) else none) else none) else none) else none
set_option maxHeartbeats 8000000 in
set_option maxRecDepth 100000 in
theorem laws_eqNode.calls (a0_0 : ByteArray) (a0_1 : ByteArray) (a0_2 : Int) (a0_3 : Int) (a0_4 : Int) (a0_5 : Int) (a0_6 : Int) (a1_0 : ByteArray) (a1_1 : ByteArray) (a1_2 : Int) (a1_3 : Int) (a1_4 : Int) (a1_5 : Int) (a1_6 : Int) (r : Bool) (w : World) (h : laws_eqNode.f a0_0 a0_1 a0_2 a0_3 a0_4 a0_5 a0_6 a1_0 a1_1 a1_2 a1_3 a1_4 a1_5 a1_6 = some r) :
  Calls Tryd.prog 108 #[.agg #[.string a0_0, .string a0_1, .int .i64 a0_2, .int .i64 a0_3, .int .i64 a0_4, .int .i64 a0_5, .int .i64 a0_6], .agg #[.string a1_0, .string a1_1, .int .i64 a1_2, .int .i64 a1_3, .int .i64 a1_4, .int .i64 a1_5, .int .i64 a1_6]] w fun e w' => e = .returned (.bool r) ∧ Below w.heap.size w w' := by
 have hu77 := Tryd.underlying77
 have HB := Aside0.mk (Below.refl w.heap.size w)
 have H : (if a0_0.toList = a1_0.toList then (if a0_1.toList = a1_1.toList then (if a0_2 = a1_2 then (if a0_3 = a1_3 then (if a0_4 = a1_4 then (if a0_5 = a1_5 then (if a0_6 = a1_6 then (some true) else none) else none) else none) else none) else none) else none) else none) = some r := h
 clear h
 by_cases c3 : a0_0.toList = a1_0.toList
 ·rw [if_pos c3] at H
  have c3b0 : (a0_0.toList == a1_0.toList) = true := beq_iff_eq.mpr c3
  have c3b1 : (a0_0.toList != a1_0.toList) = false := bne_eq_false_iff_eq.mpr c3
  clear c3
  by_cases c4 : a0_1.toList = a1_1.toList
  ·rw [if_pos c4] at H
   have c4b0 : (a0_1.toList == a1_1.toList) = true := beq_iff_eq.mpr c4
   have c4b1 : (a0_1.toList != a1_1.toList) = false := bne_eq_false_iff_eq.mpr c4
   clear c4
   by_cases c5 : a0_2 = a1_2
   ·rw [if_pos c5] at H
    have c5b0 : (a0_2 == a1_2) = true := beq_iff_eq.mpr c5
    have c5b1 : (a0_2 != a1_2) = false := bne_eq_false_iff_eq.mpr c5
    clear c5
    by_cases c6 : a0_3 = a1_3
    ·rw [if_pos c6] at H
     have c6b0 : (a0_3 == a1_3) = true := beq_iff_eq.mpr c6
     have c6b1 : (a0_3 != a1_3) = false := bne_eq_false_iff_eq.mpr c6
     clear c6
     by_cases c7 : a0_4 = a1_4
     ·rw [if_pos c7] at H
      have c7b0 : (a0_4 == a1_4) = true := beq_iff_eq.mpr c7
      have c7b1 : (a0_4 != a1_4) = false := bne_eq_false_iff_eq.mpr c7
      clear c7
      by_cases c8 : a0_5 = a1_5
      ·rw [if_pos c8] at H
       have c8b0 : (a0_5 == a1_5) = true := beq_iff_eq.mpr c8
       have c8b1 : (a0_5 != a1_5) = false := bne_eq_false_iff_eq.mpr c8
       clear c8
       by_cases c9 : a0_6 = a1_6
       ·rw [if_pos c9] at H
        have c9b0 : (a0_6 == a1_6) = true := beq_iff_eq.mpr c9
        have c9b1 : (a0_6 != a1_6) = false := bne_eq_false_iff_eq.mpr c9
        clear c9
        obtain rfl := Option.some.inj H
        go_enter Tryd.func108, Tryd.ntmps108
        go_wp2_with (first | ((with_reducible refine zu (N := 2) rfl ?_); refine zy ?hg (N := 2) ?hd (cs := #[.string a0_0, .string a0_1, .int .i64 a0_2, .int .i64 a0_3, .int .i64 a0_4, .int .i64 a0_5, .int .i64 a0_6]) (t := 77) ?hr ?_; (case hd => rfl); (case hg => rfl); (case hr => first | (go_simp; done) | (go_simp; rfl)); intro zB hg w10 hbox hb; have n0_ := Aside0.mk (zn (by exact bl HB.out) hb); have n1_ := Aside0.mk (hbox); have n2_ := Aside0.mk ((by rw [hg]; exact (zm (by exact bl HB.out)) : w.heap.size ≤ zB)); have n3_ := Aside0.mk ((by rw [hg]; exact (zm (by exact bl HB.out)) : w.heap.size ≤ zB)); clear HB; have HB := n0_; have zA := n1_; have GW263 := n2_; have zG := n3_; clear n0_ n1_ n2_ n3_; clear hb hbox hg) | ((with_reducible refine zu (N := 3) rfl ?_); refine zy ?hg (N := 3) ?hd (cs := #[.string a1_0, .string a1_1, .int .i64 a1_2, .int .i64 a1_3, .int .i64 a1_4, .int .i64 a1_5, .int .i64 a1_6]) (t := 77) ?hr ?_; (case hd => rfl); (case hg => rfl); (case hr => first | (go_simp; done) | (go_simp; rfl)); intro zD hg w11 hbox hb; have n0_ := Aside0.mk (zi (g := zB) (o := .cells #[.string a0_0, .string a0_1, .int .i64 a0_2, .int .i64 a0_3, .int .i64 a0_4, .int .i64 a0_5, .int .i64 a0_6] 77 (0, 0)) (BL zA.out) hb); have n1_ := Aside0.mk (zn (by exact bl HB.out) hb); have n2_ := Aside0.mk (hbox); have n3_ := Aside0.mk ((by rw [hg]; exact (zm (by exact bl HB.out)) : w.heap.size ≤ zD)); have n4_ := Aside0.mk ((by rw [hg]; exact (zm (by exact bl HB.out)) : w.heap.size ≤ zD)); have n5_ := Aside0.mk ((by rw [hg]; exact Nat.ne_of_lt (zt (g := zB) (o := .cells #[.string a0_0, .string a0_1, .int .i64 a0_2, .int .i64 a0_3, .int .i64 a0_4, .int .i64 a0_5, .int .i64 a0_6] 77 (0, 0)) (BL zA.out)) : zB ≠ zD)); have n6_ := Aside0.mk ((by rw [hg]; exact Nat.ne_of_gt (zt (g := zB) (o := .cells #[.string a0_0, .string a0_1, .int .i64 a0_2, .int .i64 a0_3, .int .i64 a0_4, .int .i64 a0_5, .int .i64 a0_6] 77 (0, 0)) (BL zA.out)) : zD ≠ zB)); clear zA; clear HB; have zA := n0_; have HB := n1_; have zC := n2_; have GW264 := n3_; have zH := n4_; have zE := n5_; have zF := n6_; clear n0_ n1_ n2_ n3_ n4_ n5_ n6_; clear hb hbox hg; have zkb := zE.out; have zlb := zF.out; have zI : w11.cell? ⟨zB, 0, none⟩ = some (.string a0_0) := (zc zA.out 0).trans rfl; have zJ : w11.cell? ⟨zB, 1, none⟩ = some (.string a0_1) := (zc zA.out 1).trans rfl; have zK : w11.cell? ⟨zB, 2, none⟩ = some (.int .i64 a0_2) := (zc zA.out 2).trans rfl; have zL : w11.cell? ⟨zB, 3, none⟩ = some (.int .i64 a0_3) := (zc zA.out 3).trans rfl; have zM : w11.cell? ⟨zB, 4, none⟩ = some (.int .i64 a0_4) := (zc zA.out 4).trans rfl; have zN : w11.cell? ⟨zB, 5, none⟩ = some (.int .i64 a0_5) := (zc zA.out 5).trans rfl; have zO : w11.cell? ⟨zB, 6, none⟩ = some (.int .i64 a0_6) := (zc zA.out 6).trans rfl; have zP := ze zA.out 0; have zQ := ze zA.out 1; have zR := ze zA.out 2; have zS := ze zA.out 3; have zT := ze zA.out 4; have zU := ze zA.out 5; have zV := ze zA.out 6; have zW : w11.cell? ⟨zD, 0, none⟩ = some (.string a1_0) := (zc zC.out 0).trans rfl; have zX : w11.cell? ⟨zD, 1, none⟩ = some (.string a1_1) := (zc zC.out 1).trans rfl; have zY : w11.cell? ⟨zD, 2, none⟩ = some (.int .i64 a1_2) := (zc zC.out 2).trans rfl; have zZ : w11.cell? ⟨zD, 3, none⟩ = some (.int .i64 a1_3) := (zc zC.out 3).trans rfl; have zab : w11.cell? ⟨zD, 4, none⟩ = some (.int .i64 a1_4) := (zc zC.out 4).trans rfl; have zbb : w11.cell? ⟨zD, 5, none⟩ = some (.int .i64 a1_5) := (zc zC.out 5).trans rfl; have zcb : w11.cell? ⟨zD, 6, none⟩ = some (.int .i64 a1_6) := (zc zC.out 6).trans rfl; have zdb := ze zC.out 0; have zeb := ze zC.out 1; have zfb := ze zC.out 2; have zgb := ze zC.out 3; have zhb := ze zC.out 4; have zib := ze zC.out 5; have zjb := ze zC.out 6))
        go_ret
        exact ⟨by first | rfl | (simp [*] <;> rfl), by repeat (first | (with_reducible first | exact HB.out | apply zh | apply zf | apply zg | refine zd ?_ zG.out | refine zd ?_ zH.out) | exact HB.out)⟩
       ·rw [if_neg c9] at H
        have c9b0 : (a0_6 == a1_6) = false := beq_eq_false_iff_ne.mpr c9
        have c9b1 : (a0_6 != a1_6) = true := bne_iff_ne.mpr c9
        exact absurd H (by simp)
      ·rw [if_neg c8] at H
       have c8b0 : (a0_5 == a1_5) = false := beq_eq_false_iff_ne.mpr c8
       have c8b1 : (a0_5 != a1_5) = true := bne_iff_ne.mpr c8
       exact absurd H (by simp)
     ·rw [if_neg c7] at H
      have c7b0 : (a0_4 == a1_4) = false := beq_eq_false_iff_ne.mpr c7
      have c7b1 : (a0_4 != a1_4) = true := bne_iff_ne.mpr c7
      exact absurd H (by simp)
    ·rw [if_neg c6] at H
     have c6b0 : (a0_3 == a1_3) = false := beq_eq_false_iff_ne.mpr c6
     have c6b1 : (a0_3 != a1_3) = true := bne_iff_ne.mpr c6
     exact absurd H (by simp)
   ·rw [if_neg c5] at H
    have c5b0 : (a0_2 == a1_2) = false := beq_eq_false_iff_ne.mpr c5
    have c5b1 : (a0_2 != a1_2) = true := bne_iff_ne.mpr c5
    exact absurd H (by simp)
  ·rw [if_neg c4] at H
   have c4b0 : (a0_1.toList == a1_1.toList) = false := beq_eq_false_iff_ne.mpr c4
   have c4b1 : (a0_1.toList != a1_1.toList) = true := bne_iff_ne.mpr c4
   exact absurd H (by simp)
 ·rw [if_neg c3] at H
  have c3b0 : (a0_0.toList == a1_0.toList) = false := beq_eq_false_iff_ne.mpr c3
  have c3b1 : (a0_0.toList != a1_0.toList) = true := bne_iff_ne.mpr c3
  exact absurd H (by simp)
def laws_eqNodeS.l0 : Nat → List (S77) → List (S77) → Int → Option (Bool)
 | 0, _, _, _ => none
 | k + 1, x0, x1, x5 => if x5 < (x0.length : Int) then (if 0 ≤ x5 then (if x5 < (x1.length : Int) then ((laws_eqNode.f ((rd_T77 x0 x5).f0) ((rd_T77 x0 x5).f1) ((rd_T77 x0 x5).f2) ((rd_T77 x0 x5).f3) ((rd_T77 x0 x5).f4) ((rd_T77 x0 x5).f5) ((rd_T77 x0 x5).f6) ((rd_T77 x1 x5).f0) ((rd_T77 x1 x5).f1) ((rd_T77 x1 x5).f2) ((rd_T77 x1 x5).f3) ((rd_T77 x1 x5).f4) ((rd_T77 x1 x5).f5) ((rd_T77 x1 x5).f6)).bind fun t267 => (if t267 = true then (laws_eqNodeS.l0 k x0 x1 (wrap64 (x5 + 1))) else none)) else (none)) else (none)) else (some true)
def laws_eqNodeS.f (k : Nat) (l0 : List (S77)) (l1 : List (S77)) : Option (Bool) := if (l0.length : Int) = (l1.length : Int) then (laws_eqNodeS.l0 k l0 l1 0) else none
theorem laws_eqNodeS.mono_l : ∀ k, (∀ y0 y1 y2, LeO (laws_eqNodeS.l0 k y0 y1 y2) (laws_eqNodeS.l0 (k + 1) y0 y1 y2))
 | 0 => fun _ _ _ r h => by simp [laws_eqNodeS.l0] at h
 | k + 1 => by
  have ih0 := laws_eqNodeS.mono_l k
  ·intro y0 y1 y2
   unfold laws_eqNodeS.l0
   repeat' first
   | (with_reducible exact ih0 _ _ _)
   | (with_reducible exact LeO.refl _)
   | (with_reducible exact LeO.none _)
   | (with_reducible refine LeO.ite ?_ ?_)
   | (with_reducible refine LeO.bind ?_ (fun _ => ?_))
   | exact ih0 _ _ _
   | exact LeO.none _
   | refine LeO.ite ?_ ?_
   | refine LeO.bind ?_ (fun _ => ?_)
theorem laws_eqNodeS.mono : ∀ a0 a1 k, LeO (laws_eqNodeS.f k a0 a1) (laws_eqNodeS.f (k + 1) a0 a1) := by
 intro a0 a1 k
 have ih0 := laws_eqNodeS.mono_l k
 unfold laws_eqNodeS.f
 repeat' first
   | (with_reducible exact ih0 _ _ _)
   | (with_reducible exact LeO.refl _)
   | (with_reducible exact LeO.none _)
   | (with_reducible refine LeO.ite ?_ ?_)
   | (with_reducible refine LeO.bind ?_ (fun _ => ?_))
   | exact ih0 _ _ _
   | exact LeO.none _
   | refine LeO.ite ?_ ?_
   | refine LeO.bind ?_ (fun _ => ?_)
def laws_eqNodeS.T6 : Bool × List (List Nat × List Nat) := (true, [([], []), ([], []), ([0, 1], [0, 1]), ([2], [2]), ([], []), ([], []), ([4, 5], [4, 5]), ([6], [6]), ([3, 7], [3, 7]), ([8], [8])])
def laws_eqNodeS.B6 : List Nat := [0, 0, 3, 7, 0, 0, 48, 112, 255, 511]
theorem laws_eqNodeS.tab6 : rtab .any (opsOf Tryd.f67 6) = laws_eqNodeS.T6 := by kernel_rfl
theorem laws_eqNodeS.bits6 : waitsOk laws_eqNodeS.T6.2 laws_eqNodeS.B6 = true := by kernel_rfl
set_option maxHeartbeats 8000000 in
set_option maxRecDepth 100000 in
theorem laws_eqNodeS.calls (k : Nat) (A0 : Option Addr) (c0 : Nat) (l0 : List (S77)) (A1 : Option Addr) (c1 : Nat) (l1 : List (S77)) (r : Bool) (w : World) (hr0 : Kd.C k77 w A0 l0.length l0) (hc0 : l0.length ≤ c0) (hr1 : Kd.C k77 w A1 l1.length l1) (hc1 : l1.length ≤ c1) (h : laws_eqNodeS.f k l0 l1 = some r) :
  Calls Tryd.prog 67 #[.slice A0 l0.length c0, .slice A1 l1.length c1] w fun e w' => e = .returned (.bool r) ∧ Below w.heap.size w w' := by
 have hu77 := Tryd.underlying77
 have HR0 := Aside0.mk hr0
 have HC0 := Aside0.mk hc0
 clear hr0 hc0
 have HR1 := Aside0.mk hr1
 have HC1 := Aside0.mk hc1
 clear hr1 hc1
 have HB := Aside0.mk (Below.refl w.heap.size w)
 have H : (if (l0.length : Int) = (l1.length : Int) then (laws_eqNodeS.l0 k l0 l1 0) else none) = some r := h
 clear h
 by_cases c3 : (l0.length : Int) = (l1.length : Int)
 ·rw [if_pos c3] at H
  have c3b0 : ((l0.length : Int) == (l1.length : Int)) = true := beq_iff_eq.mpr c3
  have c3b1 : ((l0.length : Int) != (l1.length : Int)) = false := bne_eq_false_iff_eq.mpr c3
  have c3b2 : (l0.length == l1.length) = true := by first | simpa using c3 | (simp at c3 ⊢; omega)
  clear c3
  have H' := Aside0.mk H
  clear H
  go_enter Tryd.func67, Tryd.ntmps67
  go_wp2
  go_loopg [5] k (fun kq v5 w' => ∃ (x5_1 : Int), v5 = .int .i64 x5_1 ∧ Aside0 (laws_eqNodeS.l0 kq l0 l1 x5_1 = some r) ∧ Aside0 (kq ≤ k) ∧ Aside0 (Below w.heap.size w w'))
  case atStart => exact ⟨(0), (by first | rfl | (simp [*]; done)), H', ⟨Nat.le_refl _⟩, ⟨by repeat (first | (with_reducible first | exact HB.out | apply zh | apply zf | apply zg) | exact HB.out)⟩⟩
  case round =>
   clear H'
   try clear c1
   try clear p2
   try clear c3
   try clear c3b0
   try clear c3b1
   try clear c3b2
   obtain ⟨x5_1, rfl, HA, HK1, HB⟩ := hrel
   cases gk with
   | zero => exact absurd HA.out (by simp [laws_eqNodeS.l0])
   | succ k1 =>
    have H := HA.out
    clear HA
    simp only [laws_eqNodeS.l0] at H
    by_cases c4 : x5_1 < (l0.length : Int)
    ·rw [if_pos c4] at H
     have c4b0 : decide (x5_1 < (l0.length : Int)) = true := decide_eq_true c4
     clear c4
     by_cases c5 : 0 ≤ x5_1
     ·rw [if_pos c5] at H
      have c5b0 : decide (0 ≤ x5_1) = true := decide_eq_true c5
      clear c5
      by_cases c6 : x5_1 < (l1.length : Int)
      ·rw [if_pos c6] at H
       have c6b0 : decide (x5_1 < (l1.length : Int)) = true := decide_eq_true c6
       clear c6
       replace H := Option.bind_eq_some_iff.mp H
       obtain ⟨t267, A70, H⟩ := H
       try dsimp only at H
       have A7 := Aside0.mk A70
       clear A70
       by_cases c8 : t267 = true
       ·subst c8
        rw [if_pos rfl] at H
        have H' := Aside0.mk H
        clear H
        try go_wp2
        have n0_ := Aside0.mk (zg HB.out)
        clear HB
        have HB := n0_
        clear n0_
        have p265 : 0 ≤ (x5_1 : Int) := of_decide_eq_true (by with_reducible assumption)
        have q265 : x5_1 < (l0.length : Int) := of_decide_eq_true (by with_reducible assumption)
        obtain ⟨ad265, e265, hx265_0, hx265_1, hx265_2, hx265_3, hx265_4, hx265_5, hx265_6⟩ := at_T77 HR0.out x5_1 p265 q265
        have hw265_6 := hx265_6
        have hw265_5 := hx265_5
        have hw265_4 := hx265_4
        have hw265_3 := hx265_3
        have hw265_2 := hx265_2
        have hw265_1 := hx265_1
        have hw265_0 := hx265_0
        cases e265
        replace hx265_0 := zb HB.out hx265_0
        replace hx265_1 := zb HB.out hx265_1
        replace hx265_2 := zb HB.out hx265_2
        replace hx265_3 := zb HB.out hx265_3
        replace hx265_4 := zb HB.out hx265_4
        replace hx265_5 := zb HB.out hx265_5
        replace hx265_6 := zb HB.out hx265_6
        replace p265 := eq_true p265
        replace q265 := eq_true q265
        have p266 : 0 ≤ (x5_1 : Int) := of_decide_eq_true (by with_reducible assumption)
        have q266 : x5_1 < (l1.length : Int) := of_decide_eq_true (by with_reducible assumption)
        obtain ⟨ad266, e266, hx266_0, hx266_1, hx266_2, hx266_3, hx266_4, hx266_5, hx266_6⟩ := at_T77 HR1.out x5_1 p266 q266
        have hw266_6 := hx266_6
        have hw266_5 := hx266_5
        have hw266_4 := hx266_4
        have hw266_3 := hx266_3
        have hw266_2 := hx266_2
        have hw266_1 := hx266_1
        have hw266_0 := hx266_0
        cases e266
        replace hx266_0 := zb HB.out hx266_0
        replace hx266_1 := zb HB.out hx266_1
        replace hx266_2 := zb HB.out hx266_2
        replace hx266_3 := zb HB.out hx266_3
        replace hx266_4 := zb HB.out hx266_4
        replace hx266_5 := zb HB.out hx266_5
        replace hx266_6 := zb HB.out hx266_6
        replace p266 := eq_true p266
        replace q266 := eq_true q266
        refine start_ (n := 10) (S := fun w' => e77r w' (ad265.add ((x5_1).toNat * 7)) (rd_T77 l0 x5_1) (e77 w' (ad266.add ((x5_1).toNat * 7)) (rd_T77 l1 x5_1))) (ds := []) #[false, false, false, false, false, false, false, false, false, false] (by kernel_rfl) rfl rfl ⟨(zb HB.out hw265_0), (zb HB.out hw265_1), (zb HB.out hw265_2), (zb HB.out hw265_3), (zb HB.out hw265_4), (zb HB.out hw265_5), (zb HB.out hw265_6), (zb HB.out hw266_0), (zb HB.out hw266_1), (zb HB.out hw266_2), (zb HB.out hw266_3), (zb HB.out hw266_4), (zb HB.out hw266_5), (zb HB.out hw266_6)⟩ (fun hHeld => ?_); refine with_tabW laws_eqNodeS.tab6 laws_eqNodeS.bits6 (fun HT_ HW_ => ?_)
        generalize wr.drew = w9 at HB hx265_0 hx265_1 hx265_2 hx265_3 hx265_4 hx265_5 hx265_6 hx266_0 hx266_1 hx266_2 hx266_3 hx266_4 hx266_5 hx266_6 hHeld ⊢
        refine pu 0 17 rfl rfl (zq HT_.out (by kernel_rfl)) (fun _ _ _ _ h => h) (by rfl) ⟨_, _, fun w' => by go_simp; rfl, by simp only [pt, ps, p0, p1, zo, zp]; rfl, ?_⟩
        refine pu 1 18 rfl rfl (zq HT_.out (by kernel_rfl)) (fun _ _ _ _ h => h) (by rfl) ⟨_, _, fun w' => by go_simp; rfl, by simp only [pt, ps, p0, p1, zo, zp]; rfl, ?_⟩
        refine pu 2 19 rfl rfl (zq HT_.out (by kernel_rfl)) (fun _ _ _ _ h => h) (by rfl) ⟨_, _, fun w' => by go_simp; rfl, by simp only [pt, ps, p0, p1, zo, zp]; rfl, ?_⟩
        refine pu 4 21 rfl rfl (zq HT_.out (by kernel_rfl)) (fun _ _ _ _ h => h) (by rfl) ⟨_, _, fun w' => by go_simp; rfl, by simp only [pt, ps, p0, p1, zo, zp]; rfl, ?_⟩
        refine pu 5 22 rfl rfl (zq HT_.out (by kernel_rfl)) (fun _ _ _ _ h => h) (by rfl) ⟨_, _, fun w' => by go_simp; rfl, by simp only [pt, ps, p0, p1, zo, zp]; rfl, ?_⟩
        refine pu 6 23 rfl rfl (zq HT_.out (by kernel_rfl)) (fun _ _ _ _ h => h) (by rfl) ⟨_, _, fun w' => by go_simp; rfl, by simp only [pt, ps, p0, p1, zo, zp]; rfl, ?_⟩
        refine ta 3 20 rfl rfl (take_ofW HT_.out HW_.out (by kernel_rfl)) (fun _ _ _ _ h => h) (by rfl) hHeld ⟨_, _, by rintro w' ⟨s0, s1, s2, s3, s4, s5, s6, s7, s8, s9, s10, s11, s12, s13⟩; go_simp; rfl, by simp only [pt, ps, p0, p1, zo, zp]; rfl, ?_⟩
        refine ta 7 24 rfl rfl (take_ofW HT_.out HW_.out (by kernel_rfl)) (fun _ _ _ _ h => h) (by rfl) hHeld ⟨_, _, by rintro w' ⟨s0, s1, s2, s3, s4, s5, s6, s7, s8, s9, s10, s11, s12, s13⟩; go_simp; rfl, by simp only [pt, ps, p0, p1, zo, zp]; rfl, ?_⟩
        refine one_ (i := 8) (N := some 25) #[true, true, true, true, true, true, true, true, true, false] rfl rfl (one_of HT_.out (by kernel_rfl)) (by decide) (fun K hK => ?_)
        refine goes_ Tryd.func108 (by kernel_rfl) rfl #[.agg #[.string ((rd_T77 l0 x5_1).f0), .string ((rd_T77 l0 x5_1).f1), .int .i64 ((rd_T77 l0 x5_1).f2), .int .i64 ((rd_T77 l0 x5_1).f3), .int .i64 ((rd_T77 l0 x5_1).f4), .int .i64 ((rd_T77 l0 x5_1).f5), .int .i64 ((rd_T77 l0 x5_1).f6)], .agg #[.string ((rd_T77 l1 x5_1).f0), .string ((rd_T77 l1 x5_1).f1), .int .i64 ((rd_T77 l1 x5_1).f2), .int .i64 ((rd_T77 l1 x5_1).f3), .int .i64 ((rd_T77 l1 x5_1).f4), .int .i64 ((rd_T77 l1 x5_1).f5), .int .i64 ((rd_T77 l1 x5_1).f6)]] (by rfl) rfl rfl (by (try simp only [List.map_toArray, List.map_cons, List.map_nil]); first | done | rfl) ?_
        with_reducible refine (laws_eqNode.calls ((rd_T77 l0 x5_1).f0) ((rd_T77 l0 x5_1).f1) ((rd_T77 l0 x5_1).f2) ((rd_T77 l0 x5_1).f3) ((rd_T77 l0 x5_1).f4) ((rd_T77 l0 x5_1).f5) ((rd_T77 l0 x5_1).f6) ((rd_T77 l1 x5_1).f0) ((rd_T77 l1 x5_1).f1) ((rd_T77 l1 x5_1).f2) ((rd_T77 l1 x5_1).f3) ((rd_T77 l1 x5_1).f4) ((rd_T77 l1 x5_1).f5) ((rd_T77 l1 x5_1).f6) true _ A7.out).mono ?_
        rintro e w10 ⟨rfl, hb⟩
        refine ⟨_, rfl, ?_⟩
        have n0_ := Aside0.mk (zn (by repeat (first | (with_reducible first | exact HB.out | apply zh | apply zf | apply zg) | exact HB.out)) hb)
        clear HB
        have HB := n0_
        clear n0_
        (try clear hb)
        (try clear hb2)
        (try clear hk)
        (try clear hi)
        refine hK.out _ _ ⟨(zb HB.out hw265_0), (zb HB.out hw265_1), (zb HB.out hw265_2), (zb HB.out hw265_3), (zb HB.out hw265_4), (zb HB.out hw265_5), (zb HB.out hw265_6), (zb HB.out hw266_0), (zb HB.out hw266_1), (zb HB.out hw266_2), (zb HB.out hw266_3), (zb HB.out hw266_4), (zb HB.out hw266_5), (zb HB.out hw266_6)⟩ (fun hHeld => ?_)
        clear hK K
        refine norm_ (a' := ?_) ?_ ?_
        rotate_left
        ·show Act.put _ (some 25) _ = _
         simp only [pt, ps, p0, p1, zo, zp]
         rfl
        refine pu 9 26 rfl rfl (zq HT_.out (by kernel_rfl)) (fun _ _ _ _ h => h) (by rfl) ⟨_, _, fun w' => by go_simp; rfl, by simp only [pt, ps, p0, p1, zo, zp]; rfl, ?_⟩
        refine done_ (done_of HT_.out (by kernel_rfl)) ?_
        try go_wp2
        go_roundg k1
        case measure => have := HK1.out; omega
        case rel => exact ⟨(wrap64 (x5_1 + 1)), (by first | rfl | (simp [*]; done)), H', ⟨by have := HK1.out; omega⟩, ⟨by repeat (first | (with_reducible first | exact HB.out | apply zh | apply zf | apply zg) | exact HB.out)⟩⟩
       ·replace c8 := Bool.eq_false_iff.mpr c8
        subst c8
        rw [if_neg (show ¬ (false = true) by decide)] at H
        exact absurd H (by simp)
      ·rw [if_neg c6] at H
       exact absurd H (by simp)
     ·rw [if_neg c5] at H
      exact absurd H (by simp)
    ·rw [if_neg c4] at H
     have c4b0 : decide (x5_1 < (l0.length : Int)) = false := decide_eq_false c4
     clear c4
     obtain rfl := Option.some.inj H
     go_wp2
     go_ret
     exact ⟨by first | rfl | (simp [*] <;> rfl), by repeat (first | (with_reducible first | exact HB.out | apply zh | apply zf | apply zg) | exact HB.out)⟩
 ·rw [if_neg c3] at H
  have c3b0 : ((l0.length : Int) == (l1.length : Int)) = false := beq_eq_false_iff_ne.mpr c3
  have c3b1 : ((l0.length : Int) != (l1.length : Int)) = true := bne_iff_ne.mpr c3
  have c3b2 : (l0.length == l1.length) = false := by first | simpa using c3 | (simp at c3 ⊢; omega)
  exact absurd H (by simp)
def laws_eqTree.f (k : Nat) (l0_0 : List (S77)) (l1_0 : List (S77)) : Option (Bool) := (laws_eqNodeS.f k l0_0 l1_0).bind fun t270 => (if t270 = true then (some true) else none)
theorem laws_eqTree.mono : ∀ a0 a1 k, LeO (laws_eqTree.f k a0 a1) (laws_eqTree.f (k + 1) a0 a1) := by
 intro a0 a1 k
 unfold laws_eqTree.f
 repeat' first
   | (with_reducible exact laws_eqNodeS.mono _ _ _)
   | (with_reducible exact LeO.refl _)
   | (with_reducible exact LeO.none _)
   | (with_reducible refine LeO.ite ?_ ?_)
   | (with_reducible refine LeO.bind ?_ (fun _ => ?_))
   | exact laws_eqNodeS.mono _ _ _
   | exact LeO.none _
   | refine LeO.ite ?_ ?_
   | refine LeO.bind ?_ (fun _ => ?_)
set_option maxHeartbeats 8000000 in
set_option maxRecDepth 100000 in
theorem laws_eqTree.calls (k : Nat) (A0_0 : Option Addr) (c0_0 : Nat) (l0_0 : List (S77)) (A1_0 : Option Addr) (c1_0 : Nat) (l1_0 : List (S77)) (r : Bool) (w : World) (hr0_0 : Kd.C k77 w A0_0 l0_0.length l0_0) (hc0_0 : l0_0.length ≤ c0_0) (hr1_0 : Kd.C k77 w A1_0 l1_0.length l1_0) (hc1_0 : l1_0.length ≤ c1_0) (h : laws_eqTree.f k l0_0 l1_0 = some r) :
  Calls Tryd.prog 22 #[.agg #[.slice A0_0 l0_0.length c0_0], .agg #[.slice A1_0 l1_0.length c1_0]] w fun e w' => e = .returned (.bool r) ∧ Below w.heap.size w w' := by
 have hu25 := Tryd.underlying25
 have HR0_0 := Aside0.mk hr0_0
 have HC0_0 := Aside0.mk hc0_0
 clear hr0_0 hc0_0
 have HR1_0 := Aside0.mk hr1_0
 have HC1_0 := Aside0.mk hc1_0
 clear hr1_0 hc1_0
 have HB := Aside0.mk (Below.refl w.heap.size w)
 have H : ((laws_eqNodeS.f k l0_0 l1_0).bind fun t270 => (if t270 = true then (some true) else none)) = some r := h
 clear h
 replace H := Option.bind_eq_some_iff.mp H
 obtain ⟨t270, A30, H⟩ := H
 try dsimp only at H
 have A3 := Aside0.mk A30
 clear A30
 by_cases c4 : t270 = true
 ·subst c4
  rw [if_pos rfl] at H
  obtain rfl := Option.some.inj H
  go_enter Tryd.func22, Tryd.ntmps22
  go_wp2_with (first | ((with_reducible refine zu (N := 2) rfl ?_); refine zy ?hg (N := 2) ?hd (cs := #[.slice A0_0 l0_0.length c0_0]) (t := 25) ?hr ?_; (case hd => rfl); (case hg => rfl); (case hr => first | (go_simp; done) | (go_simp; rfl)); intro zB hg w5 hbox hb; have n0_ := Aside0.mk (zn (by exact bl HB.out) hb); have n1_ := Aside0.mk (hbox); have n2_ := Aside0.mk ((by rw [hg]; exact (zm (by exact bl HB.out)) : w.heap.size ≤ zB)); have n3_ := Aside0.mk ((by rw [hg]; exact (zm (by exact bl HB.out)) : w.heap.size ≤ zB)); clear HB; have HB := n0_; have zA := n1_; have GW268 := n2_; have zG := n3_; clear n0_ n1_ n2_ n3_; clear hb hbox hg) | ((with_reducible refine zu (N := 3) rfl ?_); refine zy ?hg (N := 3) ?hd (cs := #[.slice A1_0 l1_0.length c1_0]) (t := 25) ?hr ?_; (case hd => rfl); (case hg => rfl); (case hr => first | (go_simp; done) | (go_simp; rfl)); intro zC hg w6 hbox hb; have n0_ := Aside0.mk (zi (g := zB) (o := .cells #[.slice A0_0 l0_0.length c0_0] 25 (0, 0)) (BL zA.out) hb); have n1_ := Aside0.mk (zn (by exact bl HB.out) hb); have n2_ := Aside0.mk (hbox); have n3_ := Aside0.mk ((by rw [hg]; exact (zm (by exact bl HB.out)) : w.heap.size ≤ zC)); have n4_ := Aside0.mk ((by rw [hg]; exact (zm (by exact bl HB.out)) : w.heap.size ≤ zC)); have n5_ := Aside0.mk ((by rw [hg]; exact Nat.ne_of_lt (zt (g := zB) (o := .cells #[.slice A0_0 l0_0.length c0_0] 25 (0, 0)) (BL zA.out)) : zB ≠ zC)); have n6_ := Aside0.mk ((by rw [hg]; exact Nat.ne_of_gt (zt (g := zB) (o := .cells #[.slice A0_0 l0_0.length c0_0] 25 (0, 0)) (BL zA.out)) : zC ≠ zB)); clear zA; clear HB; have zA := n0_; have HB := n1_; have zD := n2_; have GW269 := n3_; have zH := n4_; have zE := n5_; have zF := n6_; clear n0_ n1_ n2_ n3_ n4_ n5_ n6_; clear hb hbox hg; have zM := zE.out; have zN := zF.out; have zI : w6.cell? ⟨zB, 0, none⟩ = some (.slice A0_0 l0_0.length c0_0) := (zc zA.out 0).trans rfl; have zJ := ze zA.out 0; have zK : w6.cell? ⟨zC, 0, none⟩ = some (.slice A1_0 l1_0.length c1_0) := (zc zD.out 0).trans rfl; have zL := ze zD.out 0) | ((with_reducible refine zr (f := 67) rfl ?_); refine zz (some 9) rfl rfl Tryd.func67 (by kernel_rfl) rfl #[.slice A0_0 l0_0.length c0_0, .slice A1_0 l1_0.length c1_0] rfl (by (try simp only [List.map_toArray, List.map_cons, List.map_nil]); first | done | rfl) ?_; (with_reducible refine (laws_eqNodeS.calls k _ _ l0_0 _ _ l1_0 true _ ?side1 ?side2 ?side3 ?side4 A3.out).mono ?_); (case side1 => repeat (first | exact (Kd.C_below HR0_0.out HB.out) | (with_reducible refine Kd.C_alloc ?_ _) | (with_reducible refine Kd.C_drewN ?_ _) | (with_reducible refine Kd.C_drew ?_))); (case side2 => exact HC0_0.out); (case side3 => repeat (first | exact (Kd.C_below HR1_0.out HB.out) | (with_reducible refine Kd.C_alloc ?_ _) | (with_reducible refine Kd.C_drewN ?_ _) | (with_reducible refine Kd.C_drew ?_))); (case side4 => exact HC1_0.out); rintro e w10 ⟨rfl, hb⟩; refine ⟨_, rfl, ?_⟩; have n0_ := Aside0.mk (zi (g := zB) (o := .cells #[.slice A0_0 l0_0.length c0_0] 25 (0, 0)) (BL zA.out) hb); have n1_ := Aside0.mk (zi (g := zC) (o := .cells #[.slice A1_0 l1_0.length c1_0] 25 (0, 0)) (BL zD.out) hb); have n2_ := Aside0.mk (zn (by exact bl HB.out) hb); clear zA; clear zD; clear HB; have zA := n0_; have zD := n1_; have HB := n2_; clear n0_ n1_ n2_; (try clear hb); (try clear hb2); (try clear hk); (try clear hi)))
  go_ret
  exact ⟨by first | rfl | (simp [*] <;> rfl), by repeat (first | (with_reducible first | exact HB.out | apply zh | apply zf | apply zg | refine zd ?_ zG.out | refine zd ?_ zH.out) | exact HB.out)⟩
 ·replace c4 := Bool.eq_false_iff.mpr c4
  subst c4
  rw [if_neg (show ¬ (false = true) by decide)] at H
  exact absurd H (by simp)
def laws_eqEffect.f (a0_0 : Bool) (a0_1 : ByteArray) (a0_2 : ByteArray) (a0_3 : Int) (a0_4 : Int) (a0_5 : Int) (a0_6 : Int) (a0_7 : Int) (a1_0 : Bool) (a1_1 : ByteArray) (a1_2 : ByteArray) (a1_3 : Int) (a1_4 : Int) (a1_5 : Int) (a1_6 : Int) (a1_7 : Int) : Option (Bool) := if (a0_0 != a1_0) = true then none else ((laws_eqNode.f a0_1 a0_2 a0_3 a0_4 a0_5 a0_6 a0_7 a1_1 a1_2 a1_3 a1_4 a1_5 a1_6 a1_7).bind fun t273 => (if t273 = true then (some true) else none))
set_option maxHeartbeats 8000000 in
set_option maxRecDepth 100000 in
theorem laws_eqEffect.calls (a0_0 : Bool) (a0_1 : ByteArray) (a0_2 : ByteArray) (a0_3 : Int) (a0_4 : Int) (a0_5 : Int) (a0_6 : Int) (a0_7 : Int) (a1_0 : Bool) (a1_1 : ByteArray) (a1_2 : ByteArray) (a1_3 : Int) (a1_4 : Int) (a1_5 : Int) (a1_6 : Int) (a1_7 : Int) (r : Bool) (w : World) (h : laws_eqEffect.f a0_0 a0_1 a0_2 a0_3 a0_4 a0_5 a0_6 a0_7 a1_0 a1_1 a1_2 a1_3 a1_4 a1_5 a1_6 a1_7 = some r) :
  Calls Tryd.prog 109 #[.agg #[.bool a0_0, .string a0_1, .string a0_2, .int .i64 a0_3, .int .i64 a0_4, .int .i64 a0_5, .int .i64 a0_6, .int .i64 a0_7], .agg #[.bool a1_0, .string a1_1, .string a1_2, .int .i64 a1_3, .int .i64 a1_4, .int .i64 a1_5, .int .i64 a1_6, .int .i64 a1_7]] w fun e w' => e = .returned (.bool r) ∧ Below w.heap.size w w' := by
 have hu108 := Tryd.underlying108
 have hu77 := Tryd.underlying77
 have HB := Aside0.mk (Below.refl w.heap.size w)
 have H : (if (a0_0 != a1_0) = true then none else ((laws_eqNode.f a0_1 a0_2 a0_3 a0_4 a0_5 a0_6 a0_7 a1_1 a1_2 a1_3 a1_4 a1_5 a1_6 a1_7).bind fun t273 => (if t273 = true then (some true) else none))) = some r := h
 clear h
 by_cases c3 : (a0_0 != a1_0) = true
 ·rw [if_pos c3] at H
  have c3b0 : (a0_0 != a1_0) = true := c3
  (try (have c3b1 : decide (a0_0 = a1_0) = false := by simpa using c3))
  (try (have c3b2 : (a0_0 == a1_0) = false := by simpa using c3))
  (try (have c3b3 : ¬ (a0_0 = a1_0) := by simpa using c3))
  clear c3
  exact absurd H (by simp)
 ·rw [if_neg c3] at H
  have c3b0 : (a0_0 != a1_0) = false := by simpa using c3
  (try (have c3b1 : decide (a0_0 = a1_0) = true := by simpa using c3))
  (try (have c3b2 : (a0_0 == a1_0) = true := by simpa using c3))
  clear c3
  replace H := Option.bind_eq_some_iff.mp H
  obtain ⟨t273, A90, H⟩ := H
  try dsimp only at H
  have A9 := Aside0.mk A90
  clear A90
  by_cases c10 : t273 = true
  ·subst c10
   rw [if_pos rfl] at H
   obtain rfl := Option.some.inj H
   go_enter Tryd.func109, Tryd.ntmps109
   go_wp2_with (first | ((with_reducible refine zu (N := 2) rfl ?_); refine zy ?hg (N := 2) ?hd (cs := #[.bool a0_0, .string a0_1, .string a0_2, .int .i64 a0_3, .int .i64 a0_4, .int .i64 a0_5, .int .i64 a0_6, .int .i64 a0_7]) (t := 108) ?hr ?_; (case hd => rfl); (case hg => rfl); (case hr => first | (go_simp; done) | (go_simp; rfl)); intro zC hg w11 hbox hb; have n0_ := Aside0.mk (zn (by exact bl HB.out) hb); have n1_ := Aside0.mk (hbox); have n2_ := Aside0.mk ((by rw [hg]; exact (zm (by exact bl HB.out)) : w.heap.size ≤ zC)); have n3_ := Aside0.mk ((by rw [hg]; exact (zm (by exact bl HB.out)) : w.heap.size ≤ zC)); clear HB; have HB := n0_; have zA := n1_; have GW271 := n2_; have zG := n3_; clear n0_ n1_ n2_ n3_; clear hb hbox hg) | ((with_reducible refine zu (N := 3) rfl ?_); refine zy ?hg (N := 3) ?hd (cs := #[.bool a1_0, .string a1_1, .string a1_2, .int .i64 a1_3, .int .i64 a1_4, .int .i64 a1_5, .int .i64 a1_6, .int .i64 a1_7]) (t := 108) ?hr ?_; (case hd => rfl); (case hg => rfl); (case hr => first | (go_simp; done) | (go_simp; rfl)); intro zD hg w12 hbox hb; have n0_ := Aside0.mk (zi (g := zC) (o := .cells #[.bool a0_0, .string a0_1, .string a0_2, .int .i64 a0_3, .int .i64 a0_4, .int .i64 a0_5, .int .i64 a0_6, .int .i64 a0_7] 108 (0, 0)) (BL zA.out) hb); have n1_ := Aside0.mk (zn (by exact bl HB.out) hb); have n2_ := Aside0.mk (hbox); have n3_ := Aside0.mk ((by rw [hg]; exact (zm (by exact bl HB.out)) : w.heap.size ≤ zD)); have n4_ := Aside0.mk ((by rw [hg]; exact (zm (by exact bl HB.out)) : w.heap.size ≤ zD)); have n5_ := Aside0.mk ((by rw [hg]; exact Nat.ne_of_lt (zt (g := zC) (o := .cells #[.bool a0_0, .string a0_1, .string a0_2, .int .i64 a0_3, .int .i64 a0_4, .int .i64 a0_5, .int .i64 a0_6, .int .i64 a0_7] 108 (0, 0)) (BL zA.out)) : zC ≠ zD)); have n6_ := Aside0.mk ((by rw [hg]; exact Nat.ne_of_gt (zt (g := zC) (o := .cells #[.bool a0_0, .string a0_1, .string a0_2, .int .i64 a0_3, .int .i64 a0_4, .int .i64 a0_5, .int .i64 a0_6, .int .i64 a0_7] 108 (0, 0)) (BL zA.out)) : zD ≠ zC)); clear zA; clear HB; have zA := n0_; have HB := n1_; have zB := n2_; have GW272 := n3_; have zH := n4_; have zE := n5_; have zF := n6_; clear n0_ n1_ n2_ n3_ n4_ n5_ n6_; clear hb hbox hg; have zob := zE.out; have zpb := zF.out; have zI : w12.cell? ⟨zC, 0, none⟩ = some (.bool a0_0) := (zc zA.out 0).trans rfl; have zJ : w12.cell? ⟨zC, 1, none⟩ = some (.string a0_1) := (zc zA.out 1).trans rfl; have zK : w12.cell? ⟨zC, 2, none⟩ = some (.string a0_2) := (zc zA.out 2).trans rfl; have zL : w12.cell? ⟨zC, 3, none⟩ = some (.int .i64 a0_3) := (zc zA.out 3).trans rfl; have zM : w12.cell? ⟨zC, 4, none⟩ = some (.int .i64 a0_4) := (zc zA.out 4).trans rfl; have zN : w12.cell? ⟨zC, 5, none⟩ = some (.int .i64 a0_5) := (zc zA.out 5).trans rfl; have zO : w12.cell? ⟨zC, 6, none⟩ = some (.int .i64 a0_6) := (zc zA.out 6).trans rfl; have zP : w12.cell? ⟨zC, 7, none⟩ = some (.int .i64 a0_7) := (zc zA.out 7).trans rfl; have zQ := ze zA.out 0; have zR := ze zA.out 1; have zS := ze zA.out 2; have zT := ze zA.out 3; have zU := ze zA.out 4; have zV := ze zA.out 5; have zW := ze zA.out 6; have zX := ze zA.out 7; have zY : w12.cell? ⟨zD, 0, none⟩ = some (.bool a1_0) := (zc zB.out 0).trans rfl; have zZ : w12.cell? ⟨zD, 1, none⟩ = some (.string a1_1) := (zc zB.out 1).trans rfl; have zab : w12.cell? ⟨zD, 2, none⟩ = some (.string a1_2) := (zc zB.out 2).trans rfl; have zbb : w12.cell? ⟨zD, 3, none⟩ = some (.int .i64 a1_3) := (zc zB.out 3).trans rfl; have zcb : w12.cell? ⟨zD, 4, none⟩ = some (.int .i64 a1_4) := (zc zB.out 4).trans rfl; have zdb : w12.cell? ⟨zD, 5, none⟩ = some (.int .i64 a1_5) := (zc zB.out 5).trans rfl; have zeb : w12.cell? ⟨zD, 6, none⟩ = some (.int .i64 a1_6) := (zc zB.out 6).trans rfl; have zfb : w12.cell? ⟨zD, 7, none⟩ = some (.int .i64 a1_7) := (zc zB.out 7).trans rfl; have zgb := ze zB.out 0; have zhb := ze zB.out 1; have zib := ze zB.out 2; have zjb := ze zB.out 3; have zkb := ze zB.out 4; have zlb := ze zB.out 5; have zmb := ze zB.out 6; have znb := ze zB.out 7) | ((with_reducible refine zr (f := 108) rfl ?_); refine zz (some 14) rfl rfl Tryd.func108 (by kernel_rfl) rfl #[.agg #[.string a0_1, .string a0_2, .int .i64 a0_3, .int .i64 a0_4, .int .i64 a0_5, .int .i64 a0_6, .int .i64 a0_7], .agg #[.string a1_1, .string a1_2, .int .i64 a1_3, .int .i64 a1_4, .int .i64 a1_5, .int .i64 a1_6, .int .i64 a1_7]] rfl (by (try simp only [List.map_toArray, List.map_cons, List.map_nil]); first | done | rfl) ?_; (with_reducible refine (laws_eqNode.calls a0_1 a0_2 a0_3 a0_4 a0_5 a0_6 a0_7 a1_1 a1_2 a1_3 a1_4 a1_5 a1_6 a1_7 true _ A9.out).mono ?_); rintro e w16 ⟨rfl, hb⟩; refine ⟨_, rfl, ?_⟩; have n0_ := Aside0.mk (zi (g := zC) (o := .cells #[.bool a0_0, .string a0_1, .string a0_2, .int .i64 a0_3, .int .i64 a0_4, .int .i64 a0_5, .int .i64 a0_6, .int .i64 a0_7] 108 (0, 0)) (BL zA.out) hb); have n1_ := Aside0.mk (zi (g := zD) (o := .cells #[.bool a1_0, .string a1_1, .string a1_2, .int .i64 a1_3, .int .i64 a1_4, .int .i64 a1_5, .int .i64 a1_6, .int .i64 a1_7] 108 (0, 0)) (BL zB.out) hb); have n2_ := Aside0.mk (zn (by exact bl HB.out) hb); clear zA; clear zB; clear HB; have zA := n0_; have zB := n1_; have HB := n2_; clear n0_ n1_ n2_; (try clear hb); (try clear hb2); (try clear hk); (try clear hi)))
   go_ret
   exact ⟨by first | rfl | (simp [*] <;> rfl), by repeat (first | (with_reducible first | exact HB.out | apply zh | apply zf | apply zg | refine zd ?_ zG.out | refine zd ?_ zH.out) | exact HB.out)⟩
  ·replace c10 := Bool.eq_false_iff.mpr c10
   subst c10
   rw [if_neg (show ¬ (false = true) by decide)] at H
   exact absurd H (by simp)
def laws_eqEffectS.l0 : Nat → List (S108) → List (S108) → Int → Option (Bool)
 | 0, _, _, _ => none
 | k + 1, x0, x1, x5 => if x5 < (x0.length : Int) then (if 0 ≤ x5 then (if x5 < (x1.length : Int) then ((laws_eqEffect.f ((rd_T108 x0 x5).f0) ((rd_T108 x0 x5).f1.f0) ((rd_T108 x0 x5).f1.f1) ((rd_T108 x0 x5).f1.f2) ((rd_T108 x0 x5).f1.f3) ((rd_T108 x0 x5).f1.f4) ((rd_T108 x0 x5).f1.f5) ((rd_T108 x0 x5).f1.f6) ((rd_T108 x1 x5).f0) ((rd_T108 x1 x5).f1.f0) ((rd_T108 x1 x5).f1.f1) ((rd_T108 x1 x5).f1.f2) ((rd_T108 x1 x5).f1.f3) ((rd_T108 x1 x5).f1.f4) ((rd_T108 x1 x5).f1.f5) ((rd_T108 x1 x5).f1.f6)).bind fun t276 => (if t276 = true then (laws_eqEffectS.l0 k x0 x1 (wrap64 (x5 + 1))) else none)) else (none)) else (none)) else (some true)
def laws_eqEffectS.f (k : Nat) (l0 : List (S108)) (l1 : List (S108)) : Option (Bool) := if (l0.length : Int) = (l1.length : Int) then (laws_eqEffectS.l0 k l0 l1 0) else none
theorem laws_eqEffectS.mono_l : ∀ k, (∀ y0 y1 y2, LeO (laws_eqEffectS.l0 k y0 y1 y2) (laws_eqEffectS.l0 (k + 1) y0 y1 y2))
 | 0 => fun _ _ _ r h => by simp [laws_eqEffectS.l0] at h
 | k + 1 => by
  have ih0 := laws_eqEffectS.mono_l k
  ·intro y0 y1 y2
   unfold laws_eqEffectS.l0
   repeat' first
   | (with_reducible exact ih0 _ _ _)
   | (with_reducible exact LeO.refl _)
   | (with_reducible exact LeO.none _)
   | (with_reducible refine LeO.ite ?_ ?_)
   | (with_reducible refine LeO.bind ?_ (fun _ => ?_))
   | exact ih0 _ _ _
   | exact LeO.none _
   | refine LeO.ite ?_ ?_
   | refine LeO.bind ?_ (fun _ => ?_)
theorem laws_eqEffectS.mono : ∀ a0 a1 k, LeO (laws_eqEffectS.f k a0 a1) (laws_eqEffectS.f (k + 1) a0 a1) := by
 intro a0 a1 k
 have ih0 := laws_eqEffectS.mono_l k
 unfold laws_eqEffectS.f
 repeat' first
   | (with_reducible exact ih0 _ _ _)
   | (with_reducible exact LeO.refl _)
   | (with_reducible exact LeO.none _)
   | (with_reducible refine LeO.ite ?_ ?_)
   | (with_reducible refine LeO.bind ?_ (fun _ => ?_))
   | exact ih0 _ _ _
   | exact LeO.none _
   | refine LeO.ite ?_ ?_
   | refine LeO.bind ?_ (fun _ => ?_)
def laws_eqEffectS.T6 : Bool × List (List Nat × List Nat) := (true, [([], []), ([], []), ([0, 1], [0, 1]), ([2], [2]), ([], []), ([], []), ([4, 5], [4, 5]), ([6], [6]), ([3, 7], [3, 7]), ([8], [8])])
def laws_eqEffectS.B6 : List Nat := [0, 0, 3, 7, 0, 0, 48, 112, 255, 511]
theorem laws_eqEffectS.tab6 : rtab .any (opsOf Tryd.f68 6) = laws_eqEffectS.T6 := by kernel_rfl
theorem laws_eqEffectS.bits6 : waitsOk laws_eqEffectS.T6.2 laws_eqEffectS.B6 = true := by kernel_rfl
set_option maxHeartbeats 8000000 in
set_option maxRecDepth 100000 in
theorem laws_eqEffectS.calls (k : Nat) (A0 : Option Addr) (c0 : Nat) (l0 : List (S108)) (A1 : Option Addr) (c1 : Nat) (l1 : List (S108)) (r : Bool) (w : World) (hr0 : Kd.C k108 w A0 l0.length l0) (hc0 : l0.length ≤ c0) (hr1 : Kd.C k108 w A1 l1.length l1) (hc1 : l1.length ≤ c1) (h : laws_eqEffectS.f k l0 l1 = some r) :
  Calls Tryd.prog 68 #[.slice A0 l0.length c0, .slice A1 l1.length c1] w fun e w' => e = .returned (.bool r) ∧ Below w.heap.size w w' := by
 have hu108 := Tryd.underlying108
 have HR0 := Aside0.mk hr0
 have HC0 := Aside0.mk hc0
 clear hr0 hc0
 have HR1 := Aside0.mk hr1
 have HC1 := Aside0.mk hc1
 clear hr1 hc1
 have HB := Aside0.mk (Below.refl w.heap.size w)
 have H : (if (l0.length : Int) = (l1.length : Int) then (laws_eqEffectS.l0 k l0 l1 0) else none) = some r := h
 clear h
 by_cases c3 : (l0.length : Int) = (l1.length : Int)
 ·rw [if_pos c3] at H
  have c3b0 : ((l0.length : Int) == (l1.length : Int)) = true := beq_iff_eq.mpr c3
  have c3b1 : ((l0.length : Int) != (l1.length : Int)) = false := bne_eq_false_iff_eq.mpr c3
  have c3b2 : (l0.length == l1.length) = true := by first | simpa using c3 | (simp at c3 ⊢; omega)
  clear c3
  have H' := Aside0.mk H
  clear H
  go_enter Tryd.func68, Tryd.ntmps68
  go_wp2
  go_loopg [5] k (fun kq v5 w' => ∃ (x5_1 : Int), v5 = .int .i64 x5_1 ∧ Aside0 (laws_eqEffectS.l0 kq l0 l1 x5_1 = some r) ∧ Aside0 (kq ≤ k) ∧ Aside0 (Below w.heap.size w w'))
  case atStart => exact ⟨(0), (by first | rfl | (simp [*]; done)), H', ⟨Nat.le_refl _⟩, ⟨by repeat (first | (with_reducible first | exact HB.out | apply zh | apply zf | apply zg) | exact HB.out)⟩⟩
  case round =>
   clear H'
   try clear c1
   try clear p2
   try clear c3
   try clear c3b0
   try clear c3b1
   try clear c3b2
   obtain ⟨x5_1, rfl, HA, HK1, HB⟩ := hrel
   cases gk with
   | zero => exact absurd HA.out (by simp [laws_eqEffectS.l0])
   | succ k1 =>
    have H := HA.out
    clear HA
    simp only [laws_eqEffectS.l0] at H
    by_cases c4 : x5_1 < (l0.length : Int)
    ·rw [if_pos c4] at H
     have c4b0 : decide (x5_1 < (l0.length : Int)) = true := decide_eq_true c4
     clear c4
     by_cases c5 : 0 ≤ x5_1
     ·rw [if_pos c5] at H
      have c5b0 : decide (0 ≤ x5_1) = true := decide_eq_true c5
      clear c5
      by_cases c6 : x5_1 < (l1.length : Int)
      ·rw [if_pos c6] at H
       have c6b0 : decide (x5_1 < (l1.length : Int)) = true := decide_eq_true c6
       clear c6
       replace H := Option.bind_eq_some_iff.mp H
       obtain ⟨t276, A70, H⟩ := H
       try dsimp only at H
       have A7 := Aside0.mk A70
       clear A70
       by_cases c8 : t276 = true
       ·subst c8
        rw [if_pos rfl] at H
        have H' := Aside0.mk H
        clear H
        try go_wp2
        have n0_ := Aside0.mk (zg HB.out)
        clear HB
        have HB := n0_
        clear n0_
        have p274 : 0 ≤ (x5_1 : Int) := of_decide_eq_true (by with_reducible assumption)
        have q274 : x5_1 < (l0.length : Int) := of_decide_eq_true (by with_reducible assumption)
        obtain ⟨ad274, e274, hx274_0, hx274_1, hx274_2, hx274_3, hx274_4, hx274_5, hx274_6, hx274_7⟩ := at_T108 HR0.out x5_1 p274 q274
        have hw274_7 := hx274_7
        have hw274_6 := hx274_6
        have hw274_5 := hx274_5
        have hw274_4 := hx274_4
        have hw274_3 := hx274_3
        have hw274_2 := hx274_2
        have hw274_1 := hx274_1
        have hw274_0 := hx274_0
        cases e274
        replace hx274_0 := zb HB.out hx274_0
        replace hx274_1 := zb HB.out hx274_1
        replace hx274_2 := zb HB.out hx274_2
        replace hx274_3 := zb HB.out hx274_3
        replace hx274_4 := zb HB.out hx274_4
        replace hx274_5 := zb HB.out hx274_5
        replace hx274_6 := zb HB.out hx274_6
        replace hx274_7 := zb HB.out hx274_7
        replace p274 := eq_true p274
        replace q274 := eq_true q274
        have p275 : 0 ≤ (x5_1 : Int) := of_decide_eq_true (by with_reducible assumption)
        have q275 : x5_1 < (l1.length : Int) := of_decide_eq_true (by with_reducible assumption)
        obtain ⟨ad275, e275, hx275_0, hx275_1, hx275_2, hx275_3, hx275_4, hx275_5, hx275_6, hx275_7⟩ := at_T108 HR1.out x5_1 p275 q275
        have hw275_7 := hx275_7
        have hw275_6 := hx275_6
        have hw275_5 := hx275_5
        have hw275_4 := hx275_4
        have hw275_3 := hx275_3
        have hw275_2 := hx275_2
        have hw275_1 := hx275_1
        have hw275_0 := hx275_0
        cases e275
        replace hx275_0 := zb HB.out hx275_0
        replace hx275_1 := zb HB.out hx275_1
        replace hx275_2 := zb HB.out hx275_2
        replace hx275_3 := zb HB.out hx275_3
        replace hx275_4 := zb HB.out hx275_4
        replace hx275_5 := zb HB.out hx275_5
        replace hx275_6 := zb HB.out hx275_6
        replace hx275_7 := zb HB.out hx275_7
        replace p275 := eq_true p275
        replace q275 := eq_true q275
        refine start_ (n := 10) (S := fun w' => e108r w' (ad274.add ((x5_1).toNat * 8)) (rd_T108 l0 x5_1) (e108 w' (ad275.add ((x5_1).toNat * 8)) (rd_T108 l1 x5_1))) (ds := []) #[false, false, false, false, false, false, false, false, false, false] (by kernel_rfl) rfl rfl ⟨(zb HB.out hw274_0), (zb HB.out hw274_1), (zb HB.out hw274_2), (zb HB.out hw274_3), (zb HB.out hw274_4), (zb HB.out hw274_5), (zb HB.out hw274_6), (zb HB.out hw274_7), (zb HB.out hw275_0), (zb HB.out hw275_1), (zb HB.out hw275_2), (zb HB.out hw275_3), (zb HB.out hw275_4), (zb HB.out hw275_5), (zb HB.out hw275_6), (zb HB.out hw275_7)⟩ (fun hHeld => ?_); refine with_tabW laws_eqEffectS.tab6 laws_eqEffectS.bits6 (fun HT_ HW_ => ?_)
        generalize wr.drew = w9 at HB hx274_0 hx274_1 hx274_2 hx274_3 hx274_4 hx274_5 hx274_6 hx274_7 hx275_0 hx275_1 hx275_2 hx275_3 hx275_4 hx275_5 hx275_6 hx275_7 hHeld ⊢
        refine pu 0 17 rfl rfl (zq HT_.out (by kernel_rfl)) (fun _ _ _ _ h => h) (by rfl) ⟨_, _, fun w' => by go_simp; rfl, by simp only [pt, ps, p0, p1, zo, zp]; rfl, ?_⟩
        refine pu 1 18 rfl rfl (zq HT_.out (by kernel_rfl)) (fun _ _ _ _ h => h) (by rfl) ⟨_, _, fun w' => by go_simp; rfl, by simp only [pt, ps, p0, p1, zo, zp]; rfl, ?_⟩
        refine pu 2 19 rfl rfl (zq HT_.out (by kernel_rfl)) (fun _ _ _ _ h => h) (by rfl) ⟨_, _, fun w' => by go_simp; rfl, by simp only [pt, ps, p0, p1, zo, zp]; rfl, ?_⟩
        refine pu 4 21 rfl rfl (zq HT_.out (by kernel_rfl)) (fun _ _ _ _ h => h) (by rfl) ⟨_, _, fun w' => by go_simp; rfl, by simp only [pt, ps, p0, p1, zo, zp]; rfl, ?_⟩
        refine pu 5 22 rfl rfl (zq HT_.out (by kernel_rfl)) (fun _ _ _ _ h => h) (by rfl) ⟨_, _, fun w' => by go_simp; rfl, by simp only [pt, ps, p0, p1, zo, zp]; rfl, ?_⟩
        refine pu 6 23 rfl rfl (zq HT_.out (by kernel_rfl)) (fun _ _ _ _ h => h) (by rfl) ⟨_, _, fun w' => by go_simp; rfl, by simp only [pt, ps, p0, p1, zo, zp]; rfl, ?_⟩
        refine ta 3 20 rfl rfl (take_ofW HT_.out HW_.out (by kernel_rfl)) (fun _ _ _ _ h => h) (by rfl) hHeld ⟨_, _, by rintro w' ⟨s0, s1, s2, s3, s4, s5, s6, s7, s8, s9, s10, s11, s12, s13, s14, s15⟩; go_simp; rfl, by simp only [pt, ps, p0, p1, zo, zp]; rfl, ?_⟩
        refine ta 7 24 rfl rfl (take_ofW HT_.out HW_.out (by kernel_rfl)) (fun _ _ _ _ h => h) (by rfl) hHeld ⟨_, _, by rintro w' ⟨s0, s1, s2, s3, s4, s5, s6, s7, s8, s9, s10, s11, s12, s13, s14, s15⟩; go_simp; rfl, by simp only [pt, ps, p0, p1, zo, zp]; rfl, ?_⟩
        refine one_ (i := 8) (N := some 25) #[true, true, true, true, true, true, true, true, true, false] rfl rfl (one_of HT_.out (by kernel_rfl)) (by decide) (fun K hK => ?_)
        refine goes_ Tryd.func109 (by kernel_rfl) rfl #[.agg #[.bool ((rd_T108 l0 x5_1).f0), .string ((rd_T108 l0 x5_1).f1.f0), .string ((rd_T108 l0 x5_1).f1.f1), .int .i64 ((rd_T108 l0 x5_1).f1.f2), .int .i64 ((rd_T108 l0 x5_1).f1.f3), .int .i64 ((rd_T108 l0 x5_1).f1.f4), .int .i64 ((rd_T108 l0 x5_1).f1.f5), .int .i64 ((rd_T108 l0 x5_1).f1.f6)], .agg #[.bool ((rd_T108 l1 x5_1).f0), .string ((rd_T108 l1 x5_1).f1.f0), .string ((rd_T108 l1 x5_1).f1.f1), .int .i64 ((rd_T108 l1 x5_1).f1.f2), .int .i64 ((rd_T108 l1 x5_1).f1.f3), .int .i64 ((rd_T108 l1 x5_1).f1.f4), .int .i64 ((rd_T108 l1 x5_1).f1.f5), .int .i64 ((rd_T108 l1 x5_1).f1.f6)]] (by rfl) rfl rfl (by (try simp only [List.map_toArray, List.map_cons, List.map_nil]); first | done | rfl) ?_
        with_reducible refine (laws_eqEffect.calls ((rd_T108 l0 x5_1).f0) ((rd_T108 l0 x5_1).f1.f0) ((rd_T108 l0 x5_1).f1.f1) ((rd_T108 l0 x5_1).f1.f2) ((rd_T108 l0 x5_1).f1.f3) ((rd_T108 l0 x5_1).f1.f4) ((rd_T108 l0 x5_1).f1.f5) ((rd_T108 l0 x5_1).f1.f6) ((rd_T108 l1 x5_1).f0) ((rd_T108 l1 x5_1).f1.f0) ((rd_T108 l1 x5_1).f1.f1) ((rd_T108 l1 x5_1).f1.f2) ((rd_T108 l1 x5_1).f1.f3) ((rd_T108 l1 x5_1).f1.f4) ((rd_T108 l1 x5_1).f1.f5) ((rd_T108 l1 x5_1).f1.f6) true _ A7.out).mono ?_
        rintro e w10 ⟨rfl, hb⟩
        refine ⟨_, rfl, ?_⟩
        have n0_ := Aside0.mk (zn (by repeat (first | (with_reducible first | exact HB.out | apply zh | apply zf | apply zg) | exact HB.out)) hb)
        clear HB
        have HB := n0_
        clear n0_
        (try clear hb)
        (try clear hb2)
        (try clear hk)
        (try clear hi)
        refine hK.out _ _ ⟨(zb HB.out hw274_0), (zb HB.out hw274_1), (zb HB.out hw274_2), (zb HB.out hw274_3), (zb HB.out hw274_4), (zb HB.out hw274_5), (zb HB.out hw274_6), (zb HB.out hw274_7), (zb HB.out hw275_0), (zb HB.out hw275_1), (zb HB.out hw275_2), (zb HB.out hw275_3), (zb HB.out hw275_4), (zb HB.out hw275_5), (zb HB.out hw275_6), (zb HB.out hw275_7)⟩ (fun hHeld => ?_)
        clear hK K
        refine norm_ (a' := ?_) ?_ ?_
        rotate_left
        ·show Act.put _ (some 25) _ = _
         simp only [pt, ps, p0, p1, zo, zp]
         rfl
        refine pu 9 26 rfl rfl (zq HT_.out (by kernel_rfl)) (fun _ _ _ _ h => h) (by rfl) ⟨_, _, fun w' => by go_simp; rfl, by simp only [pt, ps, p0, p1, zo, zp]; rfl, ?_⟩
        refine done_ (done_of HT_.out (by kernel_rfl)) ?_
        try go_wp2
        go_roundg k1
        case measure => have := HK1.out; omega
        case rel => exact ⟨(wrap64 (x5_1 + 1)), (by first | rfl | (simp [*]; done)), H', ⟨by have := HK1.out; omega⟩, ⟨by repeat (first | (with_reducible first | exact HB.out | apply zh | apply zf | apply zg) | exact HB.out)⟩⟩
       ·replace c8 := Bool.eq_false_iff.mpr c8
        subst c8
        rw [if_neg (show ¬ (false = true) by decide)] at H
        exact absurd H (by simp)
      ·rw [if_neg c6] at H
       exact absurd H (by simp)
     ·rw [if_neg c5] at H
      exact absurd H (by simp)
    ·rw [if_neg c4] at H
     have c4b0 : decide (x5_1 < (l0.length : Int)) = false := decide_eq_false c4
     clear c4
     obtain rfl := Option.some.inj H
     go_wp2
     go_ret
     exact ⟨by first | rfl | (simp [*] <;> rfl), by repeat (first | (with_reducible first | exact HB.out | apply zh | apply zf | apply zg) | exact HB.out)⟩
 ·rw [if_neg c3] at H
  have c3b0 : ((l0.length : Int) == (l1.length : Int)) = false := beq_eq_false_iff_ne.mpr c3
  have c3b1 : ((l0.length : Int) != (l1.length : Int)) = true := bne_iff_ne.mpr c3
  have c3b2 : (l0.length == l1.length) = false := by first | simpa using c3 | (simp at c3 ⊢; omega)
  exact absurd H (by simp)
def laws_eqTxn.f (k : Nat) (a0_0 : Int) (l0_1 : List (S108)) (a1_0 : Int) (l1_1 : List (S108)) : Option (Bool) := if a0_0 = a1_0 then ((laws_eqEffectS.f k l0_1 l1_1).bind fun t279 => (if t279 = true then (some true) else none)) else none
theorem laws_eqTxn.mono : ∀ a0 a1 a2 a3 k, LeO (laws_eqTxn.f k a0 a1 a2 a3) (laws_eqTxn.f (k + 1) a0 a1 a2 a3) := by
 intro a0 a1 a2 a3 k
 unfold laws_eqTxn.f
 repeat' first
   | (with_reducible exact laws_eqEffectS.mono _ _ _)
   | (with_reducible exact LeO.refl _)
   | (with_reducible exact LeO.none _)
   | (with_reducible refine LeO.ite ?_ ?_)
   | (with_reducible refine LeO.bind ?_ (fun _ => ?_))
   | exact laws_eqEffectS.mono _ _ _
   | exact LeO.none _
   | refine LeO.ite ?_ ?_
   | refine LeO.bind ?_ (fun _ => ?_)
set_option maxHeartbeats 8000000 in
set_option maxRecDepth 100000 in
theorem laws_eqTxn.calls (k : Nat) (a0_0 : Int) (A0_1 : Option Addr) (c0_1 : Nat) (l0_1 : List (S108)) (a1_0 : Int) (A1_1 : Option Addr) (c1_1 : Nat) (l1_1 : List (S108)) (r : Bool) (w : World) (hr0_1 : Kd.C k108 w A0_1 l0_1.length l0_1) (hc0_1 : l0_1.length ≤ c0_1) (hr1_1 : Kd.C k108 w A1_1 l1_1.length l1_1) (hc1_1 : l1_1.length ≤ c1_1) (h : laws_eqTxn.f k a0_0 l0_1 a1_0 l1_1 = some r) :
  Calls Tryd.prog 23 #[.agg #[.int .i64 a0_0, .slice A0_1 l0_1.length c0_1], .agg #[.int .i64 a1_0, .slice A1_1 l1_1.length c1_1]] w fun e w' => e = .returned (.bool r) ∧ Below w.heap.size w w' := by
 have hu55 := Tryd.underlying55
 have HR0_1 := Aside0.mk hr0_1
 have HC0_1 := Aside0.mk hc0_1
 clear hr0_1 hc0_1
 have HR1_1 := Aside0.mk hr1_1
 have HC1_1 := Aside0.mk hc1_1
 clear hr1_1 hc1_1
 have HB := Aside0.mk (Below.refl w.heap.size w)
 have H : (if a0_0 = a1_0 then ((laws_eqEffectS.f k l0_1 l1_1).bind fun t279 => (if t279 = true then (some true) else none)) else none) = some r := h
 clear h
 by_cases c3 : a0_0 = a1_0
 ·rw [if_pos c3] at H
  have c3b0 : (a0_0 == a1_0) = true := beq_iff_eq.mpr c3
  have c3b1 : (a0_0 != a1_0) = false := bne_eq_false_iff_eq.mpr c3
  clear c3
  replace H := Option.bind_eq_some_iff.mp H
  obtain ⟨t279, A40, H⟩ := H
  try dsimp only at H
  have A4 := Aside0.mk A40
  clear A40
  by_cases c5 : t279 = true
  ·subst c5
   rw [if_pos rfl] at H
   obtain rfl := Option.some.inj H
   go_enter Tryd.func23, Tryd.ntmps23
   go_wp2_with (first | ((with_reducible refine zu (N := 2) rfl ?_); refine zy ?hg (N := 2) ?hd (cs := #[.int .i64 a0_0, .slice A0_1 l0_1.length c0_1]) (t := 55) ?hr ?_; (case hd => rfl); (case hg => rfl); (case hr => first | (go_simp; done) | (go_simp; rfl)); intro zB hg w6 hbox hb; have n0_ := Aside0.mk (zn (by exact bl HB.out) hb); have n1_ := Aside0.mk (hbox); have n2_ := Aside0.mk ((by rw [hg]; exact (zm (by exact bl HB.out)) : w.heap.size ≤ zB)); have n3_ := Aside0.mk ((by rw [hg]; exact (zm (by exact bl HB.out)) : w.heap.size ≤ zB)); clear HB; have HB := n0_; have zA := n1_; have GW277 := n2_; have zG := n3_; clear n0_ n1_ n2_ n3_; clear hb hbox hg) | ((with_reducible refine zu (N := 3) rfl ?_); refine zy ?hg (N := 3) ?hd (cs := #[.int .i64 a1_0, .slice A1_1 l1_1.length c1_1]) (t := 55) ?hr ?_; (case hd => rfl); (case hg => rfl); (case hr => first | (go_simp; done) | (go_simp; rfl)); intro zC hg w7 hbox hb; have n0_ := Aside0.mk (zi (g := zB) (o := .cells #[.int .i64 a0_0, .slice A0_1 l0_1.length c0_1] 55 (0, 0)) (BL zA.out) hb); have n1_ := Aside0.mk (zn (by exact bl HB.out) hb); have n2_ := Aside0.mk (hbox); have n3_ := Aside0.mk ((by rw [hg]; exact (zm (by exact bl HB.out)) : w.heap.size ≤ zC)); have n4_ := Aside0.mk ((by rw [hg]; exact (zm (by exact bl HB.out)) : w.heap.size ≤ zC)); have n5_ := Aside0.mk ((by rw [hg]; exact Nat.ne_of_lt (zt (g := zB) (o := .cells #[.int .i64 a0_0, .slice A0_1 l0_1.length c0_1] 55 (0, 0)) (BL zA.out)) : zB ≠ zC)); have n6_ := Aside0.mk ((by rw [hg]; exact Nat.ne_of_gt (zt (g := zB) (o := .cells #[.int .i64 a0_0, .slice A0_1 l0_1.length c0_1] 55 (0, 0)) (BL zA.out)) : zC ≠ zB)); clear zA; clear HB; have zA := n0_; have HB := n1_; have zD := n2_; have GW278 := n3_; have zH := n4_; have zE := n5_; have zF := n6_; clear n0_ n1_ n2_ n3_ n4_ n5_ n6_; clear hb hbox hg; have zQ := zE.out; have zR := zF.out; have zM : w7.cell? ⟨zB, 0, none⟩ = some (.int .i64 a0_0) := (zc zA.out 0).trans rfl; have zN : w7.cell? ⟨zB, 1, none⟩ = some (.slice A0_1 l0_1.length c0_1) := (zc zA.out 1).trans rfl; have zO := ze zA.out 0; have zP := ze zA.out 1; have zI : w7.cell? ⟨zC, 0, none⟩ = some (.int .i64 a1_0) := (zc zD.out 0).trans rfl; have zJ : w7.cell? ⟨zC, 1, none⟩ = some (.slice A1_1 l1_1.length c1_1) := (zc zD.out 1).trans rfl; have zK := ze zD.out 0; have zL := ze zD.out 1) | ((with_reducible refine zr (f := 68) rfl ?_); refine zz (some 14) rfl rfl Tryd.func68 (by kernel_rfl) rfl #[.slice A0_1 l0_1.length c0_1, .slice A1_1 l1_1.length c1_1] rfl (by (try simp only [List.map_toArray, List.map_cons, List.map_nil]); first | done | rfl) ?_; (with_reducible refine (laws_eqEffectS.calls k _ _ l0_1 _ _ l1_1 true _ ?side1 ?side2 ?side3 ?side4 A4.out).mono ?_); (case side1 => repeat (first | exact (Kd.C_below HR0_1.out HB.out) | (with_reducible refine Kd.C_alloc ?_ _) | (with_reducible refine Kd.C_drewN ?_ _) | (with_reducible refine Kd.C_drew ?_))); (case side2 => exact HC0_1.out); (case side3 => repeat (first | exact (Kd.C_below HR1_1.out HB.out) | (with_reducible refine Kd.C_alloc ?_ _) | (with_reducible refine Kd.C_drewN ?_ _) | (with_reducible refine Kd.C_drew ?_))); (case side4 => exact HC1_1.out); rintro e w11 ⟨rfl, hb⟩; refine ⟨_, rfl, ?_⟩; have n0_ := Aside0.mk (zi (g := zB) (o := .cells #[.int .i64 a0_0, .slice A0_1 l0_1.length c0_1] 55 (0, 0)) (BL zA.out) hb); have n1_ := Aside0.mk (zi (g := zC) (o := .cells #[.int .i64 a1_0, .slice A1_1 l1_1.length c1_1] 55 (0, 0)) (BL zD.out) hb); have n2_ := Aside0.mk (zn (by exact bl HB.out) hb); clear zA; clear zD; clear HB; have zA := n0_; have zD := n1_; have HB := n2_; clear n0_ n1_ n2_; (try clear hb); (try clear hb2); (try clear hk); (try clear hi)))
   go_ret
   exact ⟨by first | rfl | (simp [*] <;> rfl), by repeat (first | (with_reducible first | exact HB.out | apply zh | apply zf | apply zg | refine zd ?_ zG.out | refine zd ?_ zH.out) | exact HB.out)⟩
  ·replace c5 := Bool.eq_false_iff.mpr c5
   subst c5
   rw [if_neg (show ¬ (false = true) by decide)] at H
   exact absurd H (by simp)
 ·rw [if_neg c3] at H
  have c3b0 : (a0_0 == a1_0) = false := beq_eq_false_iff_ne.mpr c3
  have c3b1 : (a0_0 != a1_0) = true := bne_iff_ne.mpr c3
  exact absurd H (by simp)
def laws_markText.l0 : Nat → Int → ByteArray → Option (ByteArray)
 | 0, _, _ => none
 | k + 1, x0, x3 => if x0 > 0 then ((some (([(wrap64 (48 + (Int.tmod x0 10))) % 256] : List Int) : List Int)).bind fun y280 => (if (strOfNums y280).size + x3.size ≤ 9223372036854775807 then (laws_markText.l0 k (wrap64 (Int.tdiv x0 10)) ((strOfNums y280) ++ x3)) else (none))) else (if 1 + x3.size ≤ 9223372036854775807 then (some ((⟨#[109]⟩ : ByteArray) ++ x3)) else (none))
def laws_markText.f (k : Nat) (a0 : Int) : Option (ByteArray) := if a0 ≤ 0 then (some (⟨#[109, 48]⟩ : ByteArray)) else (laws_markText.l0 k a0 (⟨#[]⟩ : ByteArray))
theorem laws_markText.mono_l : ∀ k, (∀ y0 y1, LeO (laws_markText.l0 k y0 y1) (laws_markText.l0 (k + 1) y0 y1))
 | 0 => fun _ _ r h => by simp [laws_markText.l0] at h
 | k + 1 => by
  have ih0 := laws_markText.mono_l k
  ·intro y0 y1
   unfold laws_markText.l0
   repeat' first
   | (with_reducible exact ih0 _ _)
   | (with_reducible exact LeO.refl _)
   | (with_reducible exact LeO.none _)
   | (with_reducible refine LeO.ite ?_ ?_)
   | (with_reducible refine LeO.bind ?_ (fun _ => ?_))
   | exact ih0 _ _
   | exact LeO.none _
   | refine LeO.ite ?_ ?_
   | refine LeO.bind ?_ (fun _ => ?_)
theorem laws_markText.mono : ∀ a0 k, LeO (laws_markText.f k a0) (laws_markText.f (k + 1) a0) := by
 intro a0 k
 have ih0 := laws_markText.mono_l k
 unfold laws_markText.f
 repeat' first
   | (with_reducible exact ih0 _ _)
   | (with_reducible exact LeO.refl _)
   | (with_reducible exact LeO.none _)
   | (with_reducible refine LeO.ite ?_ ?_)
   | (with_reducible refine LeO.bind ?_ (fun _ => ?_))
   | exact ih0 _ _
   | exact LeO.none _
   | refine LeO.ite ?_ ?_
   | refine LeO.bind ?_ (fun _ => ?_)
set_option maxHeartbeats 8000000 in
set_option maxRecDepth 100000 in
theorem laws_markText.calls (k : Nat) (a0 : Int) (r : ByteArray) (w : World) (h : laws_markText.f k a0 = some r) :
  Calls Tryd.prog 110 #[.int .i64 a0] w fun e w' => e = .returned (.string r) ∧ Below w.heap.size w w' := by
 have HB := Aside0.mk (Below.refl w.heap.size w)
 have H : (if a0 ≤ 0 then (some (⟨#[109, 48]⟩ : ByteArray)) else (laws_markText.l0 k a0 (⟨#[]⟩ : ByteArray))) = some r := h
 clear h
 by_cases c2 : a0 ≤ 0
 ·rw [if_pos c2] at H
  have c2b0 : decide (a0 ≤ 0) = true := decide_eq_true c2
  clear c2
  obtain rfl := Option.some.inj H
  go_enter Tryd.func110, Tryd.ntmps110
  go_wp2
  go_ret
  exact ⟨by first | rfl | (simp [*] <;> rfl), by repeat (first | (with_reducible first | exact HB.out | apply zh | apply zf | apply zg) | exact HB.out)⟩
 ·rw [if_neg c2] at H
  have c2b0 : decide (a0 ≤ 0) = false := decide_eq_false c2
  clear c2
  have H' := Aside0.mk H
  clear H
  go_enter Tryd.func110, Tryd.ntmps110
  go_wp2
  go_loopg [0, 3] k (fun kq v0 v3 w' => ∃ (x0_1 : Int) (x3_1 : ByteArray), v0 = .int .i64 x0_1 ∧ v3 = .string x3_1 ∧ Aside0 (laws_markText.l0 kq x0_1 x3_1 = some r) ∧ Aside0 (kq ≤ k) ∧ Aside0 (Below w.heap.size w w'))
  case atStart => exact ⟨(a0), ((⟨#[]⟩ : ByteArray)), (by first | rfl | (simp [*]; done)), (by first | rfl | (simp [*]; done)), H', ⟨Nat.le_refl _⟩, ⟨by repeat (first | (with_reducible first | exact HB.out | apply zh | apply zf | apply zg) | exact HB.out)⟩⟩
  case round =>
   clear H'
   try clear c1
   try clear c2
   try clear c2b0
   try clear p2
   obtain ⟨x0_1, x3_1, rfl, rfl, HA, HK1, HB⟩ := hrel
   cases gk with
   | zero => exact absurd HA.out (by simp [laws_markText.l0])
   | succ k1 =>
    have H := HA.out
    clear HA
    simp only [laws_markText.l0] at H
    by_cases c3 : x0_1 > 0
    ·rw [if_pos c3] at H
     have c3b0 : decide (0 < x0_1) = true := decide_eq_true c3
     clear c3
     obtain ⟨y280, hy280⟩ : ∃ y_ : List Int, y_ = (([(wrap64 (48 + (Int.tmod x0_1 10))) % 256] : List Int)) := ⟨_, rfl⟩
     replace H : (if (strOfNums y280).size + x3_1.size ≤ 9223372036854775807 then (laws_markText.l0 k1 (wrap64 (Int.tdiv x0_1 10)) ((strOfNums y280) ++ x3_1)) else (none)) = some r := by first | (rw [hy280]; with_reducible exact H) | (have H2_ := (Option.bind_some _ _).symm.trans H; rw [hy280]; with_reducible exact H2_) | (have H2_ := (Option.bind_some _ _).symm.trans H; with_reducible exact H2_) | with_reducible exact H | (rw [hy280]; exact H) | exact H
     have Ny280 := Aside0.mk hy280
     clear hy280
     by_cases c4 : (strOfNums y280).size + x3_1.size ≤ 9223372036854775807
     ·rw [if_pos c4] at H
      have c4b0 := eq_true c4
      have c4b1 : decide ((strOfNums y280).size + x3_1.size ≤ 9223372036854775807) = true := decide_eq_true c4
      try have c4b2 : (9223372036854775807 < (strOfNums y280).size + x3_1.size) = False := eq_false (Nat.not_lt.2 c4)
      have H' := Aside0.mk H
      clear H
      go_wp2_with (first | ((with_reducible refine zu (N := 12) rfl ?_); refine Kd.R_lit (Kd.int .u8) _ 5 ?hg (N := 12) ?hd (xs := ([(wrap64 (48 + (Int.tmod x0_1 10))) % 256] : List Int)) (inner := [.int .u8 ((wrap64 (48 + (Int.tmod x0_1 10))) % 256)]) (ok := fun _ => True) (okp := fun _ => True) ?hr ?hp (fun _ hk => hk) trivial (Below.refl _ _) (Nat.le_refl _) (by simp) ?_; (case hd => rfl); (case hg => rfl); (case hr => first | (go_simp; done) | (go_simp; rfl)); (case hp => exact (Reps.one (show Kd.M (Kd.int .u8) _ _ _ ((wrap64 (48 + (Int.tmod x0_1 10))) % 256) [.int .u8 ((wrap64 (48 + (Int.tmod x0_1 10))) % 256)] from rfl) (Reps.none _ _))); intro v281 w5 zA hb hg_ hnew_; clear hg_ hnew_; (first | rw [← Ny280.out] at zA | (simp only [Int.reduceToNat] at zA; rw [← Ny280.out] at zA)); have n0_ := Aside0.mk (Kd.R_lower zA (zm (by exact bl HB.out))); have n1_ := Aside0.mk (zn (by exact bl HB.out) hb); clear HB; have zB := n0_; have HB := n1_; clear n0_ n1_; clear hb zA; have hcv7 := own_string (P := Tryd.prog) Tryd.underlying22 Tryd.underlying5 Tryd.underlying9 (Kd.own_of_R zB.out)))
      go_roundg k1
      case measure => have := HK1.out; omega
      case rel => exact ⟨(wrap64 (Int.tdiv x0_1 10)), ((strOfNums y280) ++ x3_1), (by first | rfl | (simp [*]; done)), (by first | rfl | (simp [*]; done)), H', ⟨by have := HK1.out; omega⟩, ⟨by repeat (first | (with_reducible first | exact HB.out | apply zh | apply zf | apply zg) | exact HB.out)⟩⟩
     ·rw [if_neg c4] at H
      exact absurd H (by simp)
    ·rw [if_neg c3] at H
     have c3b0 : decide (0 < x0_1) = false := decide_eq_false c3
     clear c3
     by_cases c8 : 1 + x3_1.size ≤ 9223372036854775807
     ·rw [if_pos c8] at H
      have c8b0 := eq_true c8
      have c8b1 : decide (1 + x3_1.size ≤ 9223372036854775807) = true := decide_eq_true c8
      try have c8b2 : (9223372036854775807 < 1 + x3_1.size) = False := eq_false (Nat.not_lt.2 c8)
      obtain rfl := Option.some.inj H
      go_wp2
      go_ret
      exact ⟨by first | rfl | (simp [*] <;> rfl), by repeat (first | (with_reducible first | exact HB.out | apply zh | apply zf | apply zg) | exact HB.out)⟩
     ·rw [if_neg c8] at H
      exact absurd H (by simp)

def laws_markNodeS.l0 : Nat → List (S77) → Int → Int → Option (Int × (List (S77)))
 | 0, _, _, _ => none
 | k + 1, x0, x1, x5 => if x5 < (x0.length : Int) then ((laws_markText.f k x1).bind fun t283 => (if 0 ≤ x5 then ((some (x0.set (x5 : Int).toNat (⟨t283, (rd_T77 x0 x5).f1, (rd_T77 x0 x5).f2, (rd_T77 x0 x5).f3, (rd_T77 x0 x5).f4, (rd_T77 x0 x5).f5, (rd_T77 x0 x5).f6⟩ : S77) : List (S77))).bind fun y284 => ((laws_markText.f k (wrap64 (x1 + 1))).bind fun t285 => ((some (y284.set (x5 : Int).toNat (⟨(rd_T77 y284 x5).f0, t285, (rd_T77 y284 x5).f2, (rd_T77 y284 x5).f3, (rd_T77 y284 x5).f4, (rd_T77 y284 x5).f5, (rd_T77 y284 x5).f6⟩ : S77) : List (S77))).bind fun y286 => ((some (y286.set (x5 : Int).toNat (⟨(rd_T77 y286 x5).f0, (rd_T77 y286 x5).f1, wrap64 ((wrap64 (x1 + 1)) + 1), (rd_T77 y286 x5).f3, (rd_T77 y286 x5).f4, (rd_T77 y286 x5).f5, (rd_T77 y286 x5).f6⟩ : S77) : List (S77))).bind fun y287 => ((some (y287.set (x5 : Int).toNat (⟨(rd_T77 y287 x5).f0, (rd_T77 y287 x5).f1, (rd_T77 y287 x5).f2, wrap64 ((wrap64 ((wrap64 (x1 + 1)) + 1)) + 1), (rd_T77 y287 x5).f4, (rd_T77 y287 x5).f5, (rd_T77 y287 x5).f6⟩ : S77) : List (S77))).bind fun y288 => ((some (y288.set (x5 : Int).toNat (⟨(rd_T77 y288 x5).f0, (rd_T77 y288 x5).f1, (rd_T77 y288 x5).f2, (rd_T77 y288 x5).f3, wrap64 ((wrap64 ((wrap64 ((wrap64 (x1 + 1)) + 1)) + 1)) + 1), (rd_T77 y288 x5).f5, (rd_T77 y288 x5).f6⟩ : S77) : List (S77))).bind fun y289 => ((some (y289.set (x5 : Int).toNat (⟨(rd_T77 y289 x5).f0, (rd_T77 y289 x5).f1, (rd_T77 y289 x5).f2, (rd_T77 y289 x5).f3, (rd_T77 y289 x5).f4, wrap64 ((wrap64 ((wrap64 ((wrap64 ((wrap64 (x1 + 1)) + 1)) + 1)) + 1)) + 1), (rd_T77 y289 x5).f6⟩ : S77) : List (S77))).bind fun y290 => (laws_markNodeS.l0 k (y290.set (x5 : Int).toNat (⟨(rd_T77 y290 x5).f0, (rd_T77 y290 x5).f1, (rd_T77 y290 x5).f2, (rd_T77 y290 x5).f3, (rd_T77 y290 x5).f4, (rd_T77 y290 x5).f5, wrap64 ((wrap64 ((wrap64 ((wrap64 ((wrap64 ((wrap64 (x1 + 1)) + 1)) + 1)) + 1)) + 1)) + 1)⟩ : S77)) (wrap64 ((wrap64 ((wrap64 ((wrap64 ((wrap64 ((wrap64 ((wrap64 (x1 + 1)) + 1)) + 1)) + 1)) + 1)) + 1)) + 1)) (wrap64 (x5 + 1)))))))))) else (none))) else (some (x1, x0))
def laws_markNodeS.f (k : Nat) (l0 : List (S77)) (a1 : Int) : Option (Int × (List (S77))) := laws_markNodeS.l0 k l0 a1 0
theorem laws_markNodeS.mono_l : ∀ k, (∀ y0 y1 y2, LeO (laws_markNodeS.l0 k y0 y1 y2) (laws_markNodeS.l0 (k + 1) y0 y1 y2))
 | 0 => fun _ _ _ r h => by simp [laws_markNodeS.l0] at h
 | k + 1 => by
  have ih0 := laws_markNodeS.mono_l k
  ·intro y0 y1 y2
   unfold laws_markNodeS.l0
   repeat' first
   | (with_reducible exact ih0 _ _ _)
   | (with_reducible exact laws_markText.mono _ _)
   | (with_reducible exact LeO.refl _)
   | (with_reducible exact LeO.none _)
   | (with_reducible refine LeO.ite ?_ ?_)
   | (with_reducible refine LeO.bind ?_ (fun _ => ?_))
   | exact ih0 _ _ _
   | exact laws_markText.mono _ _
   | exact LeO.none _
   | refine LeO.ite ?_ ?_
   | refine LeO.bind ?_ (fun _ => ?_)
theorem laws_markNodeS.mono : ∀ a0 a1 k, LeO (laws_markNodeS.f k a0 a1) (laws_markNodeS.f (k + 1) a0 a1) := by
 intro a0 a1 k
 have ih0 := laws_markNodeS.mono_l k
 unfold laws_markNodeS.f
 repeat' first
   | (with_reducible exact ih0 _ _ _)
   | (with_reducible exact laws_markText.mono _ _)
   | (with_reducible exact LeO.refl _)
   | (with_reducible exact LeO.none _)
   | (with_reducible refine LeO.ite ?_ ?_)
   | (with_reducible refine LeO.bind ?_ (fun _ => ?_))
   | exact ih0 _ _ _
   | exact laws_markText.mono _ _
   | exact LeO.none _
   | refine LeO.ite ?_ ?_
   | refine LeO.bind ?_ (fun _ => ?_)
set_option maxHeartbeats 8000000 in
set_option maxRecDepth 100000 in
theorem laws_markNodeS.calls (k : Nat) (P0_ : Nat → Prop) (u9000_ : Value) (l0 : List (S77)) (a1 : Int) (r1 : Int) (r2 : List (S77)) (w0 w : World) (hB : Below w0.heap.size w0 w) (zC : Kd.R k77 77 w w0.heap.size P0_ u9000_ l0) (h : laws_markNodeS.f k l0 a1 = some (r1, r2)) :
  Calls Tryd.prog 69 #[u9000_, .int .i64 a1] w fun e w' => e = .returned (.int .i64 r1) ∧ Kd.R k77 77 w' w0.heap.size (fun k_ => (P0_ k_ ∨ w.heap.size ≤ k_)) u9000_ r2 ∧ Below w0.heap.size w0 w' ∧ Kept w w' (fun k_ => P0_ k_) := by
 have zD := Aside0.mk (show Kd.R k77 77 w w0.heap.size (fun k_ => (P0_ k_ ∨ w.heap.size ≤ k_)) u9000_ l0 from Kd.R_mono zC (fun k_ hk => (.inl hk)))
 have HK := Aside0.mk (Kept.refl w (fun k_ => P0_ k_))
 have HW0 := Aside0.mk hB.size
 have HB := Aside0.mk hB
 clear hB
 have H : (laws_markNodeS.l0 k l0 a1 0) = some (r1, r2) := h
 clear h
 have H' := Aside0.mk H
 clear H
 go_enter Tryd.func69, Tryd.ntmps69
 go_wp2
 go_loopg [1, 5] k (fun kq v1 v5 w' => ∃ (x0_1 : List (S77)) (x1_1 : Int) (x5_1 : Int), v1 = .int .i64 x1_1 ∧ v5 = .int .i64 x5_1 ∧ Aside0 (laws_markNodeS.l0 kq x0_1 x1_1 x5_1 = some (r1, r2)) ∧ Aside0 (kq ≤ k) ∧ Aside0 (Kd.R k77 77 w' w0.heap.size (fun k_ => (P0_ k_ ∨ w.heap.size ≤ k_)) u9000_ x0_1) ∧ Aside0 (Kept w w' (fun k_ => P0_ k_)) ∧ Aside0 (Below w0.heap.size w0 w'))
 case atStart => exact ⟨(l0), (a1), (0), (by first | rfl | (simp [*]; done)), (by first | rfl | (simp [*]; done)), H', ⟨Nat.le_refl _⟩, ⟨RL zD.out⟩, ⟨by repeat (first | (with_reducible first | exact HK.out | apply Kept.alloc | apply Kept.drewN | apply Kept.drew) | exact HK.out)⟩, ⟨by repeat (first | (with_reducible first | exact HB.out | apply zh | apply zf | apply zg) | exact HB.out)⟩⟩
 case round =>
  clear H'
  try clear p2
  obtain ⟨x0_1, x1_1, x5_1, rfl, rfl, HA, HK1, zA, HK, HB⟩ := hrel
  cases gk with
  | zero => exact absurd HA.out (by simp [laws_markNodeS.l0])
  | succ k1 =>
   have H := HA.out
   clear HA
   simp only [laws_markNodeS.l0] at H
   by_cases c3 : x5_1 < (x0_1.length : Int)
   ·rw [if_pos c3] at H
    have c3b0 : decide (x5_1 < (x0_1.length : Int)) = true := decide_eq_true c3
    clear c3
    replace H := Option.bind_eq_some_iff.mp H
    obtain ⟨t283, A40, H⟩ := H
    try dsimp only at H
    have A4 := Aside0.mk A40
    clear A40
    by_cases c5 : 0 ≤ x5_1
    ·rw [if_pos c5] at H
     have c5b0 : decide (0 ≤ x5_1) = true := decide_eq_true c5
     clear c5
     obtain ⟨y284, hy284⟩ : ∃ y_ : List (S77), y_ = (x0_1.set (x5_1 : Int).toNat (⟨t283, (rd_T77 x0_1 x5_1).f1, (rd_T77 x0_1 x5_1).f2, (rd_T77 x0_1 x5_1).f3, (rd_T77 x0_1 x5_1).f4, (rd_T77 x0_1 x5_1).f5, (rd_T77 x0_1 x5_1).f6⟩ : S77)) := ⟨_, rfl⟩
     replace H : ((laws_markText.f k1 (wrap64 (x1_1 + 1))).bind fun t285 => ((some (y284.set (x5_1 : Int).toNat (⟨(rd_T77 y284 x5_1).f0, t285, (rd_T77 y284 x5_1).f2, (rd_T77 y284 x5_1).f3, (rd_T77 y284 x5_1).f4, (rd_T77 y284 x5_1).f5, (rd_T77 y284 x5_1).f6⟩ : S77) : List (S77))).bind fun y286 => ((some (y286.set (x5_1 : Int).toNat (⟨(rd_T77 y286 x5_1).f0, (rd_T77 y286 x5_1).f1, wrap64 ((wrap64 (x1_1 + 1)) + 1), (rd_T77 y286 x5_1).f3, (rd_T77 y286 x5_1).f4, (rd_T77 y286 x5_1).f5, (rd_T77 y286 x5_1).f6⟩ : S77) : List (S77))).bind fun y287 => ((some (y287.set (x5_1 : Int).toNat (⟨(rd_T77 y287 x5_1).f0, (rd_T77 y287 x5_1).f1, (rd_T77 y287 x5_1).f2, wrap64 ((wrap64 ((wrap64 (x1_1 + 1)) + 1)) + 1), (rd_T77 y287 x5_1).f4, (rd_T77 y287 x5_1).f5, (rd_T77 y287 x5_1).f6⟩ : S77) : List (S77))).bind fun y288 => ((some (y288.set (x5_1 : Int).toNat (⟨(rd_T77 y288 x5_1).f0, (rd_T77 y288 x5_1).f1, (rd_T77 y288 x5_1).f2, (rd_T77 y288 x5_1).f3, wrap64 ((wrap64 ((wrap64 ((wrap64 (x1_1 + 1)) + 1)) + 1)) + 1), (rd_T77 y288 x5_1).f5, (rd_T77 y288 x5_1).f6⟩ : S77) : List (S77))).bind fun y289 => ((some (y289.set (x5_1 : Int).toNat (⟨(rd_T77 y289 x5_1).f0, (rd_T77 y289 x5_1).f1, (rd_T77 y289 x5_1).f2, (rd_T77 y289 x5_1).f3, (rd_T77 y289 x5_1).f4, wrap64 ((wrap64 ((wrap64 ((wrap64 ((wrap64 (x1_1 + 1)) + 1)) + 1)) + 1)) + 1), (rd_T77 y289 x5_1).f6⟩ : S77) : List (S77))).bind fun y290 => (laws_markNodeS.l0 k1 (y290.set (x5_1 : Int).toNat (⟨(rd_T77 y290 x5_1).f0, (rd_T77 y290 x5_1).f1, (rd_T77 y290 x5_1).f2, (rd_T77 y290 x5_1).f3, (rd_T77 y290 x5_1).f4, (rd_T77 y290 x5_1).f5, wrap64 ((wrap64 ((wrap64 ((wrap64 ((wrap64 ((wrap64 (x1_1 + 1)) + 1)) + 1)) + 1)) + 1)) + 1)⟩ : S77)) (wrap64 ((wrap64 ((wrap64 ((wrap64 ((wrap64 ((wrap64 ((wrap64 (x1_1 + 1)) + 1)) + 1)) + 1)) + 1)) + 1)) + 1)) (wrap64 (x5_1 + 1))))))))) = some (r1, r2) := by first | (rw [hy284]; with_reducible exact H) | (have H2_ := (Option.bind_some _ _).symm.trans H; rw [hy284]; with_reducible exact H2_) | (have H2_ := (Option.bind_some _ _).symm.trans H; with_reducible exact H2_) | with_reducible exact H | (rw [hy284]; exact H) | exact H
     have Ny284 := Aside0.mk hy284
     clear hy284
     replace H := Option.bind_eq_some_iff.mp H
     obtain ⟨t285, A70, H⟩ := H
     try dsimp only at H
     have A7 := Aside0.mk A70
     clear A70
     obtain ⟨y286, hy286⟩ : ∃ y_ : List (S77), y_ = (y284.set (x5_1 : Int).toNat (⟨(rd_T77 y284 x5_1).f0, t285, (rd_T77 y284 x5_1).f2, (rd_T77 y284 x5_1).f3, (rd_T77 y284 x5_1).f4, (rd_T77 y284 x5_1).f5, (rd_T77 y284 x5_1).f6⟩ : S77)) := ⟨_, rfl⟩
     replace H : ((some (y286.set (x5_1 : Int).toNat (⟨(rd_T77 y286 x5_1).f0, (rd_T77 y286 x5_1).f1, wrap64 ((wrap64 (x1_1 + 1)) + 1), (rd_T77 y286 x5_1).f3, (rd_T77 y286 x5_1).f4, (rd_T77 y286 x5_1).f5, (rd_T77 y286 x5_1).f6⟩ : S77) : List (S77))).bind fun y287 => ((some (y287.set (x5_1 : Int).toNat (⟨(rd_T77 y287 x5_1).f0, (rd_T77 y287 x5_1).f1, (rd_T77 y287 x5_1).f2, wrap64 ((wrap64 ((wrap64 (x1_1 + 1)) + 1)) + 1), (rd_T77 y287 x5_1).f4, (rd_T77 y287 x5_1).f5, (rd_T77 y287 x5_1).f6⟩ : S77) : List (S77))).bind fun y288 => ((some (y288.set (x5_1 : Int).toNat (⟨(rd_T77 y288 x5_1).f0, (rd_T77 y288 x5_1).f1, (rd_T77 y288 x5_1).f2, (rd_T77 y288 x5_1).f3, wrap64 ((wrap64 ((wrap64 ((wrap64 (x1_1 + 1)) + 1)) + 1)) + 1), (rd_T77 y288 x5_1).f5, (rd_T77 y288 x5_1).f6⟩ : S77) : List (S77))).bind fun y289 => ((some (y289.set (x5_1 : Int).toNat (⟨(rd_T77 y289 x5_1).f0, (rd_T77 y289 x5_1).f1, (rd_T77 y289 x5_1).f2, (rd_T77 y289 x5_1).f3, (rd_T77 y289 x5_1).f4, wrap64 ((wrap64 ((wrap64 ((wrap64 ((wrap64 (x1_1 + 1)) + 1)) + 1)) + 1)) + 1), (rd_T77 y289 x5_1).f6⟩ : S77) : List (S77))).bind fun y290 => (laws_markNodeS.l0 k1 (y290.set (x5_1 : Int).toNat (⟨(rd_T77 y290 x5_1).f0, (rd_T77 y290 x5_1).f1, (rd_T77 y290 x5_1).f2, (rd_T77 y290 x5_1).f3, (rd_T77 y290 x5_1).f4, (rd_T77 y290 x5_1).f5, wrap64 ((wrap64 ((wrap64 ((wrap64 ((wrap64 ((wrap64 (x1_1 + 1)) + 1)) + 1)) + 1)) + 1)) + 1)⟩ : S77)) (wrap64 ((wrap64 ((wrap64 ((wrap64 ((wrap64 ((wrap64 ((wrap64 (x1_1 + 1)) + 1)) + 1)) + 1)) + 1)) + 1)) + 1)) (wrap64 (x5_1 + 1))))))) = some (r1, r2) := by first | (rw [hy286]; with_reducible exact H) | (have H2_ := (Option.bind_some _ _).symm.trans H; rw [hy286]; with_reducible exact H2_) | (have H2_ := (Option.bind_some _ _).symm.trans H; with_reducible exact H2_) | with_reducible exact H | (rw [hy286]; exact H) | exact H
     have Ny286 := Aside0.mk hy286
     clear hy286
     obtain ⟨y287, hy287⟩ : ∃ y_ : List (S77), y_ = (y286.set (x5_1 : Int).toNat (⟨(rd_T77 y286 x5_1).f0, (rd_T77 y286 x5_1).f1, wrap64 ((wrap64 (x1_1 + 1)) + 1), (rd_T77 y286 x5_1).f3, (rd_T77 y286 x5_1).f4, (rd_T77 y286 x5_1).f5, (rd_T77 y286 x5_1).f6⟩ : S77)) := ⟨_, rfl⟩
     replace H : ((some (y287.set (x5_1 : Int).toNat (⟨(rd_T77 y287 x5_1).f0, (rd_T77 y287 x5_1).f1, (rd_T77 y287 x5_1).f2, wrap64 ((wrap64 ((wrap64 (x1_1 + 1)) + 1)) + 1), (rd_T77 y287 x5_1).f4, (rd_T77 y287 x5_1).f5, (rd_T77 y287 x5_1).f6⟩ : S77) : List (S77))).bind fun y288 => ((some (y288.set (x5_1 : Int).toNat (⟨(rd_T77 y288 x5_1).f0, (rd_T77 y288 x5_1).f1, (rd_T77 y288 x5_1).f2, (rd_T77 y288 x5_1).f3, wrap64 ((wrap64 ((wrap64 ((wrap64 (x1_1 + 1)) + 1)) + 1)) + 1), (rd_T77 y288 x5_1).f5, (rd_T77 y288 x5_1).f6⟩ : S77) : List (S77))).bind fun y289 => ((some (y289.set (x5_1 : Int).toNat (⟨(rd_T77 y289 x5_1).f0, (rd_T77 y289 x5_1).f1, (rd_T77 y289 x5_1).f2, (rd_T77 y289 x5_1).f3, (rd_T77 y289 x5_1).f4, wrap64 ((wrap64 ((wrap64 ((wrap64 ((wrap64 (x1_1 + 1)) + 1)) + 1)) + 1)) + 1), (rd_T77 y289 x5_1).f6⟩ : S77) : List (S77))).bind fun y290 => (laws_markNodeS.l0 k1 (y290.set (x5_1 : Int).toNat (⟨(rd_T77 y290 x5_1).f0, (rd_T77 y290 x5_1).f1, (rd_T77 y290 x5_1).f2, (rd_T77 y290 x5_1).f3, (rd_T77 y290 x5_1).f4, (rd_T77 y290 x5_1).f5, wrap64 ((wrap64 ((wrap64 ((wrap64 ((wrap64 ((wrap64 (x1_1 + 1)) + 1)) + 1)) + 1)) + 1)) + 1)⟩ : S77)) (wrap64 ((wrap64 ((wrap64 ((wrap64 ((wrap64 ((wrap64 ((wrap64 (x1_1 + 1)) + 1)) + 1)) + 1)) + 1)) + 1)) + 1)) (wrap64 (x5_1 + 1)))))) = some (r1, r2) := by first | (rw [hy287]; with_reducible exact H) | (have H2_ := (Option.bind_some _ _).symm.trans H; rw [hy287]; with_reducible exact H2_) | (have H2_ := (Option.bind_some _ _).symm.trans H; with_reducible exact H2_) | with_reducible exact H | (rw [hy287]; exact H) | exact H
     have Ny287 := Aside0.mk hy287
     clear hy287
     obtain ⟨y288, hy288⟩ : ∃ y_ : List (S77), y_ = (y287.set (x5_1 : Int).toNat (⟨(rd_T77 y287 x5_1).f0, (rd_T77 y287 x5_1).f1, (rd_T77 y287 x5_1).f2, wrap64 ((wrap64 ((wrap64 (x1_1 + 1)) + 1)) + 1), (rd_T77 y287 x5_1).f4, (rd_T77 y287 x5_1).f5, (rd_T77 y287 x5_1).f6⟩ : S77)) := ⟨_, rfl⟩
     replace H : ((some (y288.set (x5_1 : Int).toNat (⟨(rd_T77 y288 x5_1).f0, (rd_T77 y288 x5_1).f1, (rd_T77 y288 x5_1).f2, (rd_T77 y288 x5_1).f3, wrap64 ((wrap64 ((wrap64 ((wrap64 (x1_1 + 1)) + 1)) + 1)) + 1), (rd_T77 y288 x5_1).f5, (rd_T77 y288 x5_1).f6⟩ : S77) : List (S77))).bind fun y289 => ((some (y289.set (x5_1 : Int).toNat (⟨(rd_T77 y289 x5_1).f0, (rd_T77 y289 x5_1).f1, (rd_T77 y289 x5_1).f2, (rd_T77 y289 x5_1).f3, (rd_T77 y289 x5_1).f4, wrap64 ((wrap64 ((wrap64 ((wrap64 ((wrap64 (x1_1 + 1)) + 1)) + 1)) + 1)) + 1), (rd_T77 y289 x5_1).f6⟩ : S77) : List (S77))).bind fun y290 => (laws_markNodeS.l0 k1 (y290.set (x5_1 : Int).toNat (⟨(rd_T77 y290 x5_1).f0, (rd_T77 y290 x5_1).f1, (rd_T77 y290 x5_1).f2, (rd_T77 y290 x5_1).f3, (rd_T77 y290 x5_1).f4, (rd_T77 y290 x5_1).f5, wrap64 ((wrap64 ((wrap64 ((wrap64 ((wrap64 ((wrap64 (x1_1 + 1)) + 1)) + 1)) + 1)) + 1)) + 1)⟩ : S77)) (wrap64 ((wrap64 ((wrap64 ((wrap64 ((wrap64 ((wrap64 ((wrap64 (x1_1 + 1)) + 1)) + 1)) + 1)) + 1)) + 1)) + 1)) (wrap64 (x5_1 + 1))))) = some (r1, r2) := by first | (rw [hy288]; with_reducible exact H) | (have H2_ := (Option.bind_some _ _).symm.trans H; rw [hy288]; with_reducible exact H2_) | (have H2_ := (Option.bind_some _ _).symm.trans H; with_reducible exact H2_) | with_reducible exact H | (rw [hy288]; exact H) | exact H
     have Ny288 := Aside0.mk hy288
     clear hy288
     obtain ⟨y289, hy289⟩ : ∃ y_ : List (S77), y_ = (y288.set (x5_1 : Int).toNat (⟨(rd_T77 y288 x5_1).f0, (rd_T77 y288 x5_1).f1, (rd_T77 y288 x5_1).f2, (rd_T77 y288 x5_1).f3, wrap64 ((wrap64 ((wrap64 ((wrap64 (x1_1 + 1)) + 1)) + 1)) + 1), (rd_T77 y288 x5_1).f5, (rd_T77 y288 x5_1).f6⟩ : S77)) := ⟨_, rfl⟩
     replace H : ((some (y289.set (x5_1 : Int).toNat (⟨(rd_T77 y289 x5_1).f0, (rd_T77 y289 x5_1).f1, (rd_T77 y289 x5_1).f2, (rd_T77 y289 x5_1).f3, (rd_T77 y289 x5_1).f4, wrap64 ((wrap64 ((wrap64 ((wrap64 ((wrap64 (x1_1 + 1)) + 1)) + 1)) + 1)) + 1), (rd_T77 y289 x5_1).f6⟩ : S77) : List (S77))).bind fun y290 => (laws_markNodeS.l0 k1 (y290.set (x5_1 : Int).toNat (⟨(rd_T77 y290 x5_1).f0, (rd_T77 y290 x5_1).f1, (rd_T77 y290 x5_1).f2, (rd_T77 y290 x5_1).f3, (rd_T77 y290 x5_1).f4, (rd_T77 y290 x5_1).f5, wrap64 ((wrap64 ((wrap64 ((wrap64 ((wrap64 ((wrap64 (x1_1 + 1)) + 1)) + 1)) + 1)) + 1)) + 1)⟩ : S77)) (wrap64 ((wrap64 ((wrap64 ((wrap64 ((wrap64 ((wrap64 ((wrap64 (x1_1 + 1)) + 1)) + 1)) + 1)) + 1)) + 1)) + 1)) (wrap64 (x5_1 + 1)))) = some (r1, r2) := by first | (rw [hy289]; with_reducible exact H) | (have H2_ := (Option.bind_some _ _).symm.trans H; rw [hy289]; with_reducible exact H2_) | (have H2_ := (Option.bind_some _ _).symm.trans H; with_reducible exact H2_) | with_reducible exact H | (rw [hy289]; exact H) | exact H
     have Ny289 := Aside0.mk hy289
     clear hy289
     obtain ⟨y290, hy290⟩ : ∃ y_ : List (S77), y_ = (y289.set (x5_1 : Int).toNat (⟨(rd_T77 y289 x5_1).f0, (rd_T77 y289 x5_1).f1, (rd_T77 y289 x5_1).f2, (rd_T77 y289 x5_1).f3, (rd_T77 y289 x5_1).f4, wrap64 ((wrap64 ((wrap64 ((wrap64 ((wrap64 (x1_1 + 1)) + 1)) + 1)) + 1)) + 1), (rd_T77 y289 x5_1).f6⟩ : S77)) := ⟨_, rfl⟩
     replace H : (laws_markNodeS.l0 k1 (y290.set (x5_1 : Int).toNat (⟨(rd_T77 y290 x5_1).f0, (rd_T77 y290 x5_1).f1, (rd_T77 y290 x5_1).f2, (rd_T77 y290 x5_1).f3, (rd_T77 y290 x5_1).f4, (rd_T77 y290 x5_1).f5, wrap64 ((wrap64 ((wrap64 ((wrap64 ((wrap64 ((wrap64 (x1_1 + 1)) + 1)) + 1)) + 1)) + 1)) + 1)⟩ : S77)) (wrap64 ((wrap64 ((wrap64 ((wrap64 ((wrap64 ((wrap64 ((wrap64 (x1_1 + 1)) + 1)) + 1)) + 1)) + 1)) + 1)) + 1)) (wrap64 (x5_1 + 1))) = some (r1, r2) := by first | (rw [hy290]; with_reducible exact H) | (have H2_ := (Option.bind_some _ _).symm.trans H; rw [hy290]; with_reducible exact H2_) | (have H2_ := (Option.bind_some _ _).symm.trans H; with_reducible exact H2_) | with_reducible exact H | (rw [hy290]; exact H) | exact H
     have Ny290 := Aside0.mk hy290
     clear hy290
     obtain ⟨y291, hy291⟩ : ∃ y_ : List (S77), y_ = (y290.set (x5_1 : Int).toNat (⟨(rd_T77 y290 x5_1).f0, (rd_T77 y290 x5_1).f1, (rd_T77 y290 x5_1).f2, (rd_T77 y290 x5_1).f3, (rd_T77 y290 x5_1).f4, (rd_T77 y290 x5_1).f5, wrap64 ((wrap64 ((wrap64 ((wrap64 ((wrap64 ((wrap64 (x1_1 + 1)) + 1)) + 1)) + 1)) + 1)) + 1)⟩ : S77)) := ⟨_, rfl⟩
     replace H : (laws_markNodeS.l0 k1 y291 (wrap64 ((wrap64 ((wrap64 ((wrap64 ((wrap64 ((wrap64 ((wrap64 (x1_1 + 1)) + 1)) + 1)) + 1)) + 1)) + 1)) + 1)) (wrap64 (x5_1 + 1))) = some (r1, r2) := by first | (rw [hy291]; with_reducible exact H) | (have H2_ := (Option.bind_some _ _).symm.trans H; rw [hy291]; with_reducible exact H2_) | (have H2_ := (Option.bind_some _ _).symm.trans H; with_reducible exact H2_) | with_reducible exact H | (rw [hy291]; exact H) | exact H
     have Ny291 := Aside0.mk hy291
     clear hy291
     have H' := Aside0.mk H
     clear H
     obtain ⟨Ao14, co14, eo14⟩ := Kd.R_slice zA.out
     subst eo14
     go_wp2_with (first | ((with_reducible refine zr (f := 110) rfl ?_); refine zz (some 15) rfl rfl Tryd.func110 (by kernel_rfl) rfl #[.int .i64 x1_1] rfl (by (try simp only [List.map_toArray, List.map_cons, List.map_nil]); first | done | rfl) ?_; (with_reducible refine (laws_markText.calls k1 x1_1 t283 _ A4.out).mono ?_); rintro e w15 ⟨rfl, hb⟩; refine ⟨_, rfl, ?_⟩; have n0_ := Aside0.mk (Kd.R_below (RL zA.out) hb); have n1_ := Aside0.mk (Kept.below (S := (fun k_ => P0_ k_)) (by exact kt HK.out) hb); have n2_ := Aside0.mk (zn (by exact bl HB.out) hb); clear zA; clear HK; clear HB; have zA := n0_; have HK := n1_; have HB := n2_; clear n0_ n1_ n2_; (try clear hb); (try clear hb2); (try clear hk); (try clear hi); have p6 : 0 ≤ (x5_1 : Int) := of_decide_eq_true (by with_reducible assumption); have q6 : (x5_1 : Int) < ((x0_1.length : Int) : Int) := of_decide_eq_true (by with_reducible assumption); obtain ⟨go6, co6, eo6, zB, gl6, cl6, HG6⟩ := Kd.R_form zA.out (by omega); (first | cases eo6 | (injection eo6 with ea_ en_ ec_; (first | subst ea_ | (injection ea_ with ea_; subst ea_)); subst ec_; clear en_)); have GB6 := Aside0.mk zB; have GG6 := Aside0.mk HG6; clear zB gl6 HG6; have HMgo6 := Aside0.mk (show (P0_ go6 ∨ w.heap.size ≤ go6) from (zA.out.1 _ rfl)); obtain ⟨ce6, hcl6, hM6, hcc6, hfr6⟩ := Kd.R_elem zA.out z77 (x5_1 : Int) p6 q6; obtain rfl := k77_openM hM6; have hx6_0 : w15.cell? ⟨go6, (x5_1 : Int).toNat * 7, none⟩ = some (.string ((rd_T77 x0_1 x5_1).f0)) := hcc6 0 _ rfl; have hx6_1 : w15.cell? ⟨go6, (x5_1 : Int).toNat * 7 + 1, none⟩ = some (.string ((rd_T77 x0_1 x5_1).f1)) := hcc6 1 _ rfl; have hx6_2 : w15.cell? ⟨go6, (x5_1 : Int).toNat * 7 + 2, none⟩ = some (.int .i64 ((rd_T77 x0_1 x5_1).f2)) := hcc6 2 _ rfl; have hx6_3 : w15.cell? ⟨go6, (x5_1 : Int).toNat * 7 + 3, none⟩ = some (.int .i64 ((rd_T77 x0_1 x5_1).f3)) := hcc6 3 _ rfl; have hx6_4 : w15.cell? ⟨go6, (x5_1 : Int).toNat * 7 + 4, none⟩ = some (.int .i64 ((rd_T77 x0_1 x5_1).f4)) := hcc6 4 _ rfl; have hx6_5 : w15.cell? ⟨go6, (x5_1 : Int).toNat * 7 + 5, none⟩ = some (.int .i64 ((rd_T77 x0_1 x5_1).f5)) := hcc6 5 _ rfl; have hx6_6 : w15.cell? ⟨go6, (x5_1 : Int).toNat * 7 + 6, none⟩ = some (.int .i64 ((rd_T77 x0_1 x5_1).f6)) := hcc6 6 _ rfl; have hf6_0 : w15.frozen? ⟨go6, (x5_1 : Int).toNat * 7, none⟩ = false := hfr6 0; have hf6_1 : w15.frozen? ⟨go6, (x5_1 : Int).toNat * 7 + 1, none⟩ = false := hfr6 1; have hf6_2 : w15.frozen? ⟨go6, (x5_1 : Int).toNat * 7 + 2, none⟩ = false := hfr6 2; have hf6_3 : w15.frozen? ⟨go6, (x5_1 : Int).toNat * 7 + 3, none⟩ = false := hfr6 3; have hf6_4 : w15.frozen? ⟨go6, (x5_1 : Int).toNat * 7 + 4, none⟩ = false := hfr6 4; have hf6_5 : w15.frozen? ⟨go6, (x5_1 : Int).toNat * 7 + 5, none⟩ = false := hfr6 5; have hf6_6 : w15.frozen? ⟨go6, (x5_1 : Int).toNat * 7 + 6, none⟩ = false := hfr6 6; clear hcl6 hcc6 hfr6 hM6; replace p6 := eq_true p6; replace q6 := eq_true q6; have HX16 := Aside0.mk (show Kd.R k77 77 w15 w0.heap.size (fun k_ => (P0_ k_ ∨ w.heap.size ≤ k_)) (.slice (some ⟨go6, 0, none⟩) x0_1.length co14) x0_1 from (RL zA.out)); obtain ⟨ce16, hcl16, hM16, hcc16, hfr16⟩ := Kd.R_elem HX16.out z77 (x5_1 : Int) (of_decide_eq_true (by with_reducible assumption)) (by have h_ : (x5_1 : Int) < ((x0_1.length : Int) : Int) := of_decide_eq_true (by with_reducible assumption); first | exact h_ | (have e_ := (Kd.R_reads' zA.out).1; omega) | simpa using h_); obtain rfl := k77_openM hM16; have HP16 := Kd.R_seg HX16.out (x5_1 : Int) (of_decide_eq_true (by with_reducible assumption)) (by have h_ : (x5_1 : Int) < ((x0_1.length : Int) : Int) := of_decide_eq_true (by with_reducible assumption); first | exact h_ | (have e_ := (Kd.R_reads' zA.out).1; omega) | simpa using h_) (seg := [.string t283]) (j := 0) hcl16 hcc16 (show 1 ≤ 7 from by decide) (x' := (⟨t283, (rd_T77 x0_1 x5_1).f1, (rd_T77 x0_1 x5_1).f2, (rd_T77 x0_1 x5_1).f3, (rd_T77 x0_1 x5_1).f4, (rd_T77 x0_1 x5_1).f5, (rd_T77 x0_1 x5_1).f6⟩ : S77)) (k77_mkM _ _ _ (⟨t283, (rd_T77 x0_1 x5_1).f1, (rd_T77 x0_1 x5_1).f2, (rd_T77 x0_1 x5_1).f3, (rd_T77 x0_1 x5_1).f4, (rd_T77 x0_1 x5_1).f5, (rd_T77 x0_1 x5_1).f6⟩ : S77) ) (fun _ hk => hk); have hx16_0 := hcc16 0 _ rfl; (try simp only [show (k77).sz = 7 from rfl, Nat.mul_one, Nat.add_zero] at hx16_0); have hf16_0 := hfr16 0; (try simp only [show (k77).sz = 7 from rfl, Nat.mul_one, Nat.add_zero] at hf16_0); clear hcl16 hcc16 hfr16 hM16) | ((with_reducible refine gate_store (t := 9) (p := 17) rfl ?_); refine store_event (t := 9) (p := 17) (v := ?vo_w17) (w1 := (w15.setCell ⟨go6, (x5_1 : Int).toNat * 7, none⟩ (.string t283))) ?hg ?ho ?hn ?hr ?_; (case ho => rfl); (case hg => rfl); (case hn => rfl); (case hr => first | (go_simp; done) | (go_simp; rfl)); intro w17 hw; have hg : w15.grownBy w17 (some go6) := (by rw [hw]; exact HP16.2); have hp_ : Kd.R k77 77 w17 w0.heap.size (fun k_ => (P0_ k_ ∨ w.heap.size ≤ k_)) (.slice (some ⟨go6, 0, none⟩) x0_1.length co14) y284 := (by rw [hw, Ny284.out]; exact HP16.1); clear HP16; have n0_ := Aside0.mk (hp_); have n1_ := Aside0.mk ((by rw [hw]; exact zd (HB.out) GB6.out : Below w0.heap.size w0 w17)); have n2_ := Aside0.mk (Kept.of_grown (S := (fun k_ => P0_ k_)) hg (by exact kt HK.out) (fun k_ e_ => (zA.out.1 k_ e_))); clear zA; clear HB; clear HK; have zA := n0_; have HB := n1_; have HK := n2_; clear n0_ n1_ n2_; clear hg hw hp_) | ((with_reducible refine zr (f := 110) rfl ?_); refine zz (some 23) rfl rfl Tryd.func110 (by kernel_rfl) rfl #[.int .i64 (wrap64 (x1_1 + 1))] rfl (by (try simp only [List.map_toArray, List.map_cons, List.map_nil]); first | done | rfl) ?_; (with_reducible refine (laws_markText.calls k1 (wrap64 (x1_1 + 1)) t285 _ A7.out).mono ?_); rintro e w18 ⟨rfl, hb⟩; refine ⟨_, rfl, ?_⟩; have n0_ := Aside0.mk (Kd.R_below (RL zA.out) hb); have n1_ := Aside0.mk (Kept.below (S := (fun k_ => P0_ k_)) (by exact kt HK.out) hb); have n2_ := Aside0.mk (zn (by exact bl HB.out) hb); clear zA; clear HK; clear HB; have zA := n0_; have HK := n1_; have HB := n2_; clear n0_ n1_ n2_; (try clear hb); (try clear hb2); (try clear hk); (try clear hi); have p8 : 0 ≤ (x5_1 : Int) := of_decide_eq_true (by with_reducible assumption); have q8 : (x5_1 : Int) < ((x0_1.length : Int) : Int) := of_decide_eq_true (by with_reducible assumption); obtain ⟨ce8, hcl8, hM8, hcc8, hfr8⟩ := Kd.R_elem zA.out z77 (x5_1 : Int) p8 q8; obtain rfl := k77_openM hM8; have hx8_0 : w18.cell? ⟨go6, (x5_1 : Int).toNat * 7, none⟩ = some (.string ((rd_T77 y284 x5_1).f0)) := hcc8 0 _ rfl; have hx8_1 : w18.cell? ⟨go6, (x5_1 : Int).toNat * 7 + 1, none⟩ = some (.string ((rd_T77 y284 x5_1).f1)) := hcc8 1 _ rfl; have hx8_2 : w18.cell? ⟨go6, (x5_1 : Int).toNat * 7 + 2, none⟩ = some (.int .i64 ((rd_T77 y284 x5_1).f2)) := hcc8 2 _ rfl; have hx8_3 : w18.cell? ⟨go6, (x5_1 : Int).toNat * 7 + 3, none⟩ = some (.int .i64 ((rd_T77 y284 x5_1).f3)) := hcc8 3 _ rfl; have hx8_4 : w18.cell? ⟨go6, (x5_1 : Int).toNat * 7 + 4, none⟩ = some (.int .i64 ((rd_T77 y284 x5_1).f4)) := hcc8 4 _ rfl; have hx8_5 : w18.cell? ⟨go6, (x5_1 : Int).toNat * 7 + 5, none⟩ = some (.int .i64 ((rd_T77 y284 x5_1).f5)) := hcc8 5 _ rfl; have hx8_6 : w18.cell? ⟨go6, (x5_1 : Int).toNat * 7 + 6, none⟩ = some (.int .i64 ((rd_T77 y284 x5_1).f6)) := hcc8 6 _ rfl; have hf8_0 : w18.frozen? ⟨go6, (x5_1 : Int).toNat * 7, none⟩ = false := hfr8 0; have hf8_1 : w18.frozen? ⟨go6, (x5_1 : Int).toNat * 7 + 1, none⟩ = false := hfr8 1; have hf8_2 : w18.frozen? ⟨go6, (x5_1 : Int).toNat * 7 + 2, none⟩ = false := hfr8 2; have hf8_3 : w18.frozen? ⟨go6, (x5_1 : Int).toNat * 7 + 3, none⟩ = false := hfr8 3; have hf8_4 : w18.frozen? ⟨go6, (x5_1 : Int).toNat * 7 + 4, none⟩ = false := hfr8 4; have hf8_5 : w18.frozen? ⟨go6, (x5_1 : Int).toNat * 7 + 5, none⟩ = false := hfr8 5; have hf8_6 : w18.frozen? ⟨go6, (x5_1 : Int).toNat * 7 + 6, none⟩ = false := hfr8 6; clear hcl8 hcc8 hfr8 hM8; replace p8 := eq_true p8; replace q8 := eq_true q8; have HX19 := Aside0.mk (show Kd.R k77 77 w18 w0.heap.size (fun k_ => (P0_ k_ ∨ w.heap.size ≤ k_)) (.slice (some ⟨go6, 0, none⟩) x0_1.length co14) y284 from (RL zA.out)); obtain ⟨ce19, hcl19, hM19, hcc19, hfr19⟩ := Kd.R_elem HX19.out z77 (x5_1 : Int) (of_decide_eq_true (by with_reducible assumption)) (by have h_ : (x5_1 : Int) < ((x0_1.length : Int) : Int) := of_decide_eq_true (by with_reducible assumption); first | exact h_ | (have e_ := (Kd.R_reads' zA.out).1; omega) | simpa using h_); obtain rfl := k77_openM hM19; have HP19 := Kd.R_seg HX19.out (x5_1 : Int) (of_decide_eq_true (by with_reducible assumption)) (by have h_ : (x5_1 : Int) < ((x0_1.length : Int) : Int) := of_decide_eq_true (by with_reducible assumption); first | exact h_ | (have e_ := (Kd.R_reads' zA.out).1; omega) | simpa using h_) (seg := [.string t285]) (j := 1) hcl19 hcc19 (show 2 ≤ 7 from by decide) (x' := (⟨(rd_T77 y284 x5_1).f0, t285, (rd_T77 y284 x5_1).f2, (rd_T77 y284 x5_1).f3, (rd_T77 y284 x5_1).f4, (rd_T77 y284 x5_1).f5, (rd_T77 y284 x5_1).f6⟩ : S77)) (k77_mkM _ _ _ (⟨(rd_T77 y284 x5_1).f0, t285, (rd_T77 y284 x5_1).f2, (rd_T77 y284 x5_1).f3, (rd_T77 y284 x5_1).f4, (rd_T77 y284 x5_1).f5, (rd_T77 y284 x5_1).f6⟩ : S77) ) (fun _ hk => hk); have hx19_1 := hcc19 1 _ rfl; (try simp only [show (k77).sz = 7 from rfl, Nat.mul_one, Nat.add_zero] at hx19_1); have hf19_1 := hfr19 1; (try simp only [show (k77).sz = 7 from rfl, Nat.mul_one, Nat.add_zero] at hf19_1); clear hcl19 hcc19 hfr19 hM19) | ((with_reducible refine gate_store (t := 9) (p := 25) rfl ?_); refine store_event (t := 9) (p := 25) (v := ?vo_w20) (w1 := (w18.setCell ⟨go6, (x5_1 : Int).toNat * 7 + 1, none⟩ (.string t285))) ?hg ?ho ?hn ?hr ?_; (case ho => rfl); (case hg => rfl); (case hn => rfl); (case hr => first | (go_simp; done) | (go_simp; rfl)); intro w20 hw; have hg : w18.grownBy w20 (some go6) := (by rw [hw]; exact HP19.2); have hp_ : Kd.R k77 77 w20 w0.heap.size (fun k_ => (P0_ k_ ∨ w.heap.size ≤ k_)) (.slice (some ⟨go6, 0, none⟩) x0_1.length co14) y286 := (by rw [hw, Ny286.out]; exact HP19.1); clear HP19; have n0_ := Aside0.mk (hp_); have n1_ := Aside0.mk ((by rw [hw]; exact zd (HB.out) GB6.out : Below w0.heap.size w0 w20)); have n2_ := Aside0.mk (Kept.of_grown (S := (fun k_ => P0_ k_)) hg (by exact kt HK.out) (fun k_ e_ => (zA.out.1 k_ e_))); clear zA; clear HB; clear HK; have zA := n0_; have HB := n1_; have HK := n2_; clear n0_ n1_ n2_; clear hg hw hp_; have p9 : 0 ≤ (x5_1 : Int) := of_decide_eq_true (by with_reducible assumption); have q9 : (x5_1 : Int) < ((x0_1.length : Int) : Int) := of_decide_eq_true (by with_reducible assumption); obtain ⟨ce9, hcl9, hM9, hcc9, hfr9⟩ := Kd.R_elem zA.out z77 (x5_1 : Int) p9 q9; obtain rfl := k77_openM hM9; have hx9_0 : w20.cell? ⟨go6, (x5_1 : Int).toNat * 7, none⟩ = some (.string ((rd_T77 y286 x5_1).f0)) := hcc9 0 _ rfl; have hx9_1 : w20.cell? ⟨go6, (x5_1 : Int).toNat * 7 + 1, none⟩ = some (.string ((rd_T77 y286 x5_1).f1)) := hcc9 1 _ rfl; have hx9_2 : w20.cell? ⟨go6, (x5_1 : Int).toNat * 7 + 2, none⟩ = some (.int .i64 ((rd_T77 y286 x5_1).f2)) := hcc9 2 _ rfl; have hx9_3 : w20.cell? ⟨go6, (x5_1 : Int).toNat * 7 + 3, none⟩ = some (.int .i64 ((rd_T77 y286 x5_1).f3)) := hcc9 3 _ rfl; have hx9_4 : w20.cell? ⟨go6, (x5_1 : Int).toNat * 7 + 4, none⟩ = some (.int .i64 ((rd_T77 y286 x5_1).f4)) := hcc9 4 _ rfl; have hx9_5 : w20.cell? ⟨go6, (x5_1 : Int).toNat * 7 + 5, none⟩ = some (.int .i64 ((rd_T77 y286 x5_1).f5)) := hcc9 5 _ rfl; have hx9_6 : w20.cell? ⟨go6, (x5_1 : Int).toNat * 7 + 6, none⟩ = some (.int .i64 ((rd_T77 y286 x5_1).f6)) := hcc9 6 _ rfl; have hf9_0 : w20.frozen? ⟨go6, (x5_1 : Int).toNat * 7, none⟩ = false := hfr9 0; have hf9_1 : w20.frozen? ⟨go6, (x5_1 : Int).toNat * 7 + 1, none⟩ = false := hfr9 1; have hf9_2 : w20.frozen? ⟨go6, (x5_1 : Int).toNat * 7 + 2, none⟩ = false := hfr9 2; have hf9_3 : w20.frozen? ⟨go6, (x5_1 : Int).toNat * 7 + 3, none⟩ = false := hfr9 3; have hf9_4 : w20.frozen? ⟨go6, (x5_1 : Int).toNat * 7 + 4, none⟩ = false := hfr9 4; have hf9_5 : w20.frozen? ⟨go6, (x5_1 : Int).toNat * 7 + 5, none⟩ = false := hfr9 5; have hf9_6 : w20.frozen? ⟨go6, (x5_1 : Int).toNat * 7 + 6, none⟩ = false := hfr9 6; clear hcl9 hcc9 hfr9 hM9; replace p9 := eq_true p9; replace q9 := eq_true q9; have HX21 := Aside0.mk (show Kd.R k77 77 w20 w0.heap.size (fun k_ => (P0_ k_ ∨ w.heap.size ≤ k_)) (.slice (some ⟨go6, 0, none⟩) x0_1.length co14) y286 from (RL zA.out)); obtain ⟨ce21, hcl21, hM21, hcc21, hfr21⟩ := Kd.R_elem HX21.out z77 (x5_1 : Int) (of_decide_eq_true (by with_reducible assumption)) (by have h_ : (x5_1 : Int) < ((x0_1.length : Int) : Int) := of_decide_eq_true (by with_reducible assumption); first | exact h_ | (have e_ := (Kd.R_reads' zA.out).1; omega) | simpa using h_); obtain rfl := k77_openM hM21; have HP21 := Kd.R_seg HX21.out (x5_1 : Int) (of_decide_eq_true (by with_reducible assumption)) (by have h_ : (x5_1 : Int) < ((x0_1.length : Int) : Int) := of_decide_eq_true (by with_reducible assumption); first | exact h_ | (have e_ := (Kd.R_reads' zA.out).1; omega) | simpa using h_) (seg := [.int .i64 (wrap64 ((wrap64 (x1_1 + 1)) + 1))]) (j := 2) hcl21 hcc21 (show 3 ≤ 7 from by decide) (x' := (⟨(rd_T77 y286 x5_1).f0, (rd_T77 y286 x5_1).f1, wrap64 ((wrap64 (x1_1 + 1)) + 1), (rd_T77 y286 x5_1).f3, (rd_T77 y286 x5_1).f4, (rd_T77 y286 x5_1).f5, (rd_T77 y286 x5_1).f6⟩ : S77)) (k77_mkM _ _ _ (⟨(rd_T77 y286 x5_1).f0, (rd_T77 y286 x5_1).f1, wrap64 ((wrap64 (x1_1 + 1)) + 1), (rd_T77 y286 x5_1).f3, (rd_T77 y286 x5_1).f4, (rd_T77 y286 x5_1).f5, (rd_T77 y286 x5_1).f6⟩ : S77) ) (fun _ hk => hk); have hx21_2 := hcc21 2 _ rfl; (try simp only [show (k77).sz = 7 from rfl, Nat.mul_one, Nat.add_zero] at hx21_2); have hf21_2 := hfr21 2; (try simp only [show (k77).sz = 7 from rfl, Nat.mul_one, Nat.add_zero] at hf21_2); clear hcl21 hcc21 hfr21 hM21) | ((with_reducible refine gate_store (t := 2) (p := 32) rfl ?_); refine store_event (t := 2) (p := 32) (v := ?vo_w22) (w1 := (w20.setCell ⟨go6, (x5_1 : Int).toNat * 7 + 2, none⟩ (.int .i64 (wrap64 ((wrap64 (x1_1 + 1)) + 1))))) ?hg ?ho ?hn ?hr ?_; (case ho => rfl); (case hg => rfl); (case hn => rfl); (case hr => first | (go_simp; done) | (go_simp; rfl)); intro w22 hw; have hg : w20.grownBy w22 (some go6) := (by rw [hw]; exact HP21.2); have hp_ : Kd.R k77 77 w22 w0.heap.size (fun k_ => (P0_ k_ ∨ w.heap.size ≤ k_)) (.slice (some ⟨go6, 0, none⟩) x0_1.length co14) y287 := (by rw [hw, Ny287.out]; exact HP21.1); clear HP21; have n0_ := Aside0.mk (hp_); have n1_ := Aside0.mk ((by rw [hw]; exact zd (HB.out) GB6.out : Below w0.heap.size w0 w22)); have n2_ := Aside0.mk (Kept.of_grown (S := (fun k_ => P0_ k_)) hg (by exact kt HK.out) (fun k_ e_ => (zA.out.1 k_ e_))); clear zA; clear HB; clear HK; have zA := n0_; have HB := n1_; have HK := n2_; clear n0_ n1_ n2_; clear hg hw hp_; have p10 : 0 ≤ (x5_1 : Int) := of_decide_eq_true (by with_reducible assumption); have q10 : (x5_1 : Int) < ((x0_1.length : Int) : Int) := of_decide_eq_true (by with_reducible assumption); obtain ⟨ce10, hcl10, hM10, hcc10, hfr10⟩ := Kd.R_elem zA.out z77 (x5_1 : Int) p10 q10; obtain rfl := k77_openM hM10; have hx10_0 : w22.cell? ⟨go6, (x5_1 : Int).toNat * 7, none⟩ = some (.string ((rd_T77 y287 x5_1).f0)) := hcc10 0 _ rfl; have hx10_1 : w22.cell? ⟨go6, (x5_1 : Int).toNat * 7 + 1, none⟩ = some (.string ((rd_T77 y287 x5_1).f1)) := hcc10 1 _ rfl; have hx10_2 : w22.cell? ⟨go6, (x5_1 : Int).toNat * 7 + 2, none⟩ = some (.int .i64 ((rd_T77 y287 x5_1).f2)) := hcc10 2 _ rfl; have hx10_3 : w22.cell? ⟨go6, (x5_1 : Int).toNat * 7 + 3, none⟩ = some (.int .i64 ((rd_T77 y287 x5_1).f3)) := hcc10 3 _ rfl; have hx10_4 : w22.cell? ⟨go6, (x5_1 : Int).toNat * 7 + 4, none⟩ = some (.int .i64 ((rd_T77 y287 x5_1).f4)) := hcc10 4 _ rfl; have hx10_5 : w22.cell? ⟨go6, (x5_1 : Int).toNat * 7 + 5, none⟩ = some (.int .i64 ((rd_T77 y287 x5_1).f5)) := hcc10 5 _ rfl; have hx10_6 : w22.cell? ⟨go6, (x5_1 : Int).toNat * 7 + 6, none⟩ = some (.int .i64 ((rd_T77 y287 x5_1).f6)) := hcc10 6 _ rfl; have hf10_0 : w22.frozen? ⟨go6, (x5_1 : Int).toNat * 7, none⟩ = false := hfr10 0; have hf10_1 : w22.frozen? ⟨go6, (x5_1 : Int).toNat * 7 + 1, none⟩ = false := hfr10 1; have hf10_2 : w22.frozen? ⟨go6, (x5_1 : Int).toNat * 7 + 2, none⟩ = false := hfr10 2; have hf10_3 : w22.frozen? ⟨go6, (x5_1 : Int).toNat * 7 + 3, none⟩ = false := hfr10 3; have hf10_4 : w22.frozen? ⟨go6, (x5_1 : Int).toNat * 7 + 4, none⟩ = false := hfr10 4; have hf10_5 : w22.frozen? ⟨go6, (x5_1 : Int).toNat * 7 + 5, none⟩ = false := hfr10 5; have hf10_6 : w22.frozen? ⟨go6, (x5_1 : Int).toNat * 7 + 6, none⟩ = false := hfr10 6; clear hcl10 hcc10 hfr10 hM10; replace p10 := eq_true p10; replace q10 := eq_true q10; have HX23 := Aside0.mk (show Kd.R k77 77 w22 w0.heap.size (fun k_ => (P0_ k_ ∨ w.heap.size ≤ k_)) (.slice (some ⟨go6, 0, none⟩) x0_1.length co14) y287 from (RL zA.out)); obtain ⟨ce23, hcl23, hM23, hcc23, hfr23⟩ := Kd.R_elem HX23.out z77 (x5_1 : Int) (of_decide_eq_true (by with_reducible assumption)) (by have h_ : (x5_1 : Int) < ((x0_1.length : Int) : Int) := of_decide_eq_true (by with_reducible assumption); first | exact h_ | (have e_ := (Kd.R_reads' zA.out).1; omega) | simpa using h_); obtain rfl := k77_openM hM23; have HP23 := Kd.R_seg HX23.out (x5_1 : Int) (of_decide_eq_true (by with_reducible assumption)) (by have h_ : (x5_1 : Int) < ((x0_1.length : Int) : Int) := of_decide_eq_true (by with_reducible assumption); first | exact h_ | (have e_ := (Kd.R_reads' zA.out).1; omega) | simpa using h_) (seg := [.int .i64 (wrap64 ((wrap64 ((wrap64 (x1_1 + 1)) + 1)) + 1))]) (j := 3) hcl23 hcc23 (show 4 ≤ 7 from by decide) (x' := (⟨(rd_T77 y287 x5_1).f0, (rd_T77 y287 x5_1).f1, (rd_T77 y287 x5_1).f2, wrap64 ((wrap64 ((wrap64 (x1_1 + 1)) + 1)) + 1), (rd_T77 y287 x5_1).f4, (rd_T77 y287 x5_1).f5, (rd_T77 y287 x5_1).f6⟩ : S77)) (k77_mkM _ _ _ (⟨(rd_T77 y287 x5_1).f0, (rd_T77 y287 x5_1).f1, (rd_T77 y287 x5_1).f2, wrap64 ((wrap64 ((wrap64 (x1_1 + 1)) + 1)) + 1), (rd_T77 y287 x5_1).f4, (rd_T77 y287 x5_1).f5, (rd_T77 y287 x5_1).f6⟩ : S77) ) (fun _ hk => hk); have hx23_3 := hcc23 3 _ rfl; (try simp only [show (k77).sz = 7 from rfl, Nat.mul_one, Nat.add_zero] at hx23_3); have hf23_3 := hfr23 3; (try simp only [show (k77).sz = 7 from rfl, Nat.mul_one, Nat.add_zero] at hf23_3); clear hcl23 hcc23 hfr23 hM23) | ((with_reducible refine gate_store (t := 2) (p := 39) rfl ?_); refine store_event (t := 2) (p := 39) (v := ?vo_w24) (w1 := (w22.setCell ⟨go6, (x5_1 : Int).toNat * 7 + 3, none⟩ (.int .i64 (wrap64 ((wrap64 ((wrap64 (x1_1 + 1)) + 1)) + 1))))) ?hg ?ho ?hn ?hr ?_; (case ho => rfl); (case hg => rfl); (case hn => rfl); (case hr => first | (go_simp; done) | (go_simp; rfl)); intro w24 hw; have hg : w22.grownBy w24 (some go6) := (by rw [hw]; exact HP23.2); have hp_ : Kd.R k77 77 w24 w0.heap.size (fun k_ => (P0_ k_ ∨ w.heap.size ≤ k_)) (.slice (some ⟨go6, 0, none⟩) x0_1.length co14) y288 := (by rw [hw, Ny288.out]; exact HP23.1); clear HP23; have n0_ := Aside0.mk (hp_); have n1_ := Aside0.mk ((by rw [hw]; exact zd (HB.out) GB6.out : Below w0.heap.size w0 w24)); have n2_ := Aside0.mk (Kept.of_grown (S := (fun k_ => P0_ k_)) hg (by exact kt HK.out) (fun k_ e_ => (zA.out.1 k_ e_))); clear zA; clear HB; clear HK; have zA := n0_; have HB := n1_; have HK := n2_; clear n0_ n1_ n2_; clear hg hw hp_; have p11 : 0 ≤ (x5_1 : Int) := of_decide_eq_true (by with_reducible assumption); have q11 : (x5_1 : Int) < ((x0_1.length : Int) : Int) := of_decide_eq_true (by with_reducible assumption); obtain ⟨ce11, hcl11, hM11, hcc11, hfr11⟩ := Kd.R_elem zA.out z77 (x5_1 : Int) p11 q11; obtain rfl := k77_openM hM11; have hx11_0 : w24.cell? ⟨go6, (x5_1 : Int).toNat * 7, none⟩ = some (.string ((rd_T77 y288 x5_1).f0)) := hcc11 0 _ rfl; have hx11_1 : w24.cell? ⟨go6, (x5_1 : Int).toNat * 7 + 1, none⟩ = some (.string ((rd_T77 y288 x5_1).f1)) := hcc11 1 _ rfl; have hx11_2 : w24.cell? ⟨go6, (x5_1 : Int).toNat * 7 + 2, none⟩ = some (.int .i64 ((rd_T77 y288 x5_1).f2)) := hcc11 2 _ rfl; have hx11_3 : w24.cell? ⟨go6, (x5_1 : Int).toNat * 7 + 3, none⟩ = some (.int .i64 ((rd_T77 y288 x5_1).f3)) := hcc11 3 _ rfl; have hx11_4 : w24.cell? ⟨go6, (x5_1 : Int).toNat * 7 + 4, none⟩ = some (.int .i64 ((rd_T77 y288 x5_1).f4)) := hcc11 4 _ rfl; have hx11_5 : w24.cell? ⟨go6, (x5_1 : Int).toNat * 7 + 5, none⟩ = some (.int .i64 ((rd_T77 y288 x5_1).f5)) := hcc11 5 _ rfl; have hx11_6 : w24.cell? ⟨go6, (x5_1 : Int).toNat * 7 + 6, none⟩ = some (.int .i64 ((rd_T77 y288 x5_1).f6)) := hcc11 6 _ rfl; have hf11_0 : w24.frozen? ⟨go6, (x5_1 : Int).toNat * 7, none⟩ = false := hfr11 0; have hf11_1 : w24.frozen? ⟨go6, (x5_1 : Int).toNat * 7 + 1, none⟩ = false := hfr11 1; have hf11_2 : w24.frozen? ⟨go6, (x5_1 : Int).toNat * 7 + 2, none⟩ = false := hfr11 2; have hf11_3 : w24.frozen? ⟨go6, (x5_1 : Int).toNat * 7 + 3, none⟩ = false := hfr11 3; have hf11_4 : w24.frozen? ⟨go6, (x5_1 : Int).toNat * 7 + 4, none⟩ = false := hfr11 4; have hf11_5 : w24.frozen? ⟨go6, (x5_1 : Int).toNat * 7 + 5, none⟩ = false := hfr11 5; have hf11_6 : w24.frozen? ⟨go6, (x5_1 : Int).toNat * 7 + 6, none⟩ = false := hfr11 6; clear hcl11 hcc11 hfr11 hM11; replace p11 := eq_true p11; replace q11 := eq_true q11; have HX25 := Aside0.mk (show Kd.R k77 77 w24 w0.heap.size (fun k_ => (P0_ k_ ∨ w.heap.size ≤ k_)) (.slice (some ⟨go6, 0, none⟩) x0_1.length co14) y288 from (RL zA.out)); obtain ⟨ce25, hcl25, hM25, hcc25, hfr25⟩ := Kd.R_elem HX25.out z77 (x5_1 : Int) (of_decide_eq_true (by with_reducible assumption)) (by have h_ : (x5_1 : Int) < ((x0_1.length : Int) : Int) := of_decide_eq_true (by with_reducible assumption); first | exact h_ | (have e_ := (Kd.R_reads' zA.out).1; omega) | simpa using h_); obtain rfl := k77_openM hM25; have HP25 := Kd.R_seg HX25.out (x5_1 : Int) (of_decide_eq_true (by with_reducible assumption)) (by have h_ : (x5_1 : Int) < ((x0_1.length : Int) : Int) := of_decide_eq_true (by with_reducible assumption); first | exact h_ | (have e_ := (Kd.R_reads' zA.out).1; omega) | simpa using h_) (seg := [.int .i64 (wrap64 ((wrap64 ((wrap64 ((wrap64 (x1_1 + 1)) + 1)) + 1)) + 1))]) (j := 4) hcl25 hcc25 (show 5 ≤ 7 from by decide) (x' := (⟨(rd_T77 y288 x5_1).f0, (rd_T77 y288 x5_1).f1, (rd_T77 y288 x5_1).f2, (rd_T77 y288 x5_1).f3, wrap64 ((wrap64 ((wrap64 ((wrap64 (x1_1 + 1)) + 1)) + 1)) + 1), (rd_T77 y288 x5_1).f5, (rd_T77 y288 x5_1).f6⟩ : S77)) (k77_mkM _ _ _ (⟨(rd_T77 y288 x5_1).f0, (rd_T77 y288 x5_1).f1, (rd_T77 y288 x5_1).f2, (rd_T77 y288 x5_1).f3, wrap64 ((wrap64 ((wrap64 ((wrap64 (x1_1 + 1)) + 1)) + 1)) + 1), (rd_T77 y288 x5_1).f5, (rd_T77 y288 x5_1).f6⟩ : S77) ) (fun _ hk => hk); have hx25_4 := hcc25 4 _ rfl; (try simp only [show (k77).sz = 7 from rfl, Nat.mul_one, Nat.add_zero] at hx25_4); have hf25_4 := hfr25 4; (try simp only [show (k77).sz = 7 from rfl, Nat.mul_one, Nat.add_zero] at hf25_4); clear hcl25 hcc25 hfr25 hM25) | ((with_reducible refine gate_store (t := 2) (p := 46) rfl ?_); refine store_event (t := 2) (p := 46) (v := ?vo_w26) (w1 := (w24.setCell ⟨go6, (x5_1 : Int).toNat * 7 + 4, none⟩ (.int .i64 (wrap64 ((wrap64 ((wrap64 ((wrap64 (x1_1 + 1)) + 1)) + 1)) + 1))))) ?hg ?ho ?hn ?hr ?_; (case ho => rfl); (case hg => rfl); (case hn => rfl); (case hr => first | (go_simp; done) | (go_simp; rfl)); intro w26 hw; have hg : w24.grownBy w26 (some go6) := (by rw [hw]; exact HP25.2); have hp_ : Kd.R k77 77 w26 w0.heap.size (fun k_ => (P0_ k_ ∨ w.heap.size ≤ k_)) (.slice (some ⟨go6, 0, none⟩) x0_1.length co14) y289 := (by rw [hw, Ny289.out]; exact HP25.1); clear HP25; have n0_ := Aside0.mk (hp_); have n1_ := Aside0.mk ((by rw [hw]; exact zd (HB.out) GB6.out : Below w0.heap.size w0 w26)); have n2_ := Aside0.mk (Kept.of_grown (S := (fun k_ => P0_ k_)) hg (by exact kt HK.out) (fun k_ e_ => (zA.out.1 k_ e_))); clear zA; clear HB; clear HK; have zA := n0_; have HB := n1_; have HK := n2_; clear n0_ n1_ n2_; clear hg hw hp_; have p12 : 0 ≤ (x5_1 : Int) := of_decide_eq_true (by with_reducible assumption); have q12 : (x5_1 : Int) < ((x0_1.length : Int) : Int) := of_decide_eq_true (by with_reducible assumption); obtain ⟨ce12, hcl12, hM12, hcc12, hfr12⟩ := Kd.R_elem zA.out z77 (x5_1 : Int) p12 q12; obtain rfl := k77_openM hM12; have hx12_0 : w26.cell? ⟨go6, (x5_1 : Int).toNat * 7, none⟩ = some (.string ((rd_T77 y289 x5_1).f0)) := hcc12 0 _ rfl; have hx12_1 : w26.cell? ⟨go6, (x5_1 : Int).toNat * 7 + 1, none⟩ = some (.string ((rd_T77 y289 x5_1).f1)) := hcc12 1 _ rfl; have hx12_2 : w26.cell? ⟨go6, (x5_1 : Int).toNat * 7 + 2, none⟩ = some (.int .i64 ((rd_T77 y289 x5_1).f2)) := hcc12 2 _ rfl; have hx12_3 : w26.cell? ⟨go6, (x5_1 : Int).toNat * 7 + 3, none⟩ = some (.int .i64 ((rd_T77 y289 x5_1).f3)) := hcc12 3 _ rfl; have hx12_4 : w26.cell? ⟨go6, (x5_1 : Int).toNat * 7 + 4, none⟩ = some (.int .i64 ((rd_T77 y289 x5_1).f4)) := hcc12 4 _ rfl; have hx12_5 : w26.cell? ⟨go6, (x5_1 : Int).toNat * 7 + 5, none⟩ = some (.int .i64 ((rd_T77 y289 x5_1).f5)) := hcc12 5 _ rfl; have hx12_6 : w26.cell? ⟨go6, (x5_1 : Int).toNat * 7 + 6, none⟩ = some (.int .i64 ((rd_T77 y289 x5_1).f6)) := hcc12 6 _ rfl; have hf12_0 : w26.frozen? ⟨go6, (x5_1 : Int).toNat * 7, none⟩ = false := hfr12 0; have hf12_1 : w26.frozen? ⟨go6, (x5_1 : Int).toNat * 7 + 1, none⟩ = false := hfr12 1; have hf12_2 : w26.frozen? ⟨go6, (x5_1 : Int).toNat * 7 + 2, none⟩ = false := hfr12 2; have hf12_3 : w26.frozen? ⟨go6, (x5_1 : Int).toNat * 7 + 3, none⟩ = false := hfr12 3; have hf12_4 : w26.frozen? ⟨go6, (x5_1 : Int).toNat * 7 + 4, none⟩ = false := hfr12 4; have hf12_5 : w26.frozen? ⟨go6, (x5_1 : Int).toNat * 7 + 5, none⟩ = false := hfr12 5; have hf12_6 : w26.frozen? ⟨go6, (x5_1 : Int).toNat * 7 + 6, none⟩ = false := hfr12 6; clear hcl12 hcc12 hfr12 hM12; replace p12 := eq_true p12; replace q12 := eq_true q12; have HX27 := Aside0.mk (show Kd.R k77 77 w26 w0.heap.size (fun k_ => (P0_ k_ ∨ w.heap.size ≤ k_)) (.slice (some ⟨go6, 0, none⟩) x0_1.length co14) y289 from (RL zA.out)); obtain ⟨ce27, hcl27, hM27, hcc27, hfr27⟩ := Kd.R_elem HX27.out z77 (x5_1 : Int) (of_decide_eq_true (by with_reducible assumption)) (by have h_ : (x5_1 : Int) < ((x0_1.length : Int) : Int) := of_decide_eq_true (by with_reducible assumption); first | exact h_ | (have e_ := (Kd.R_reads' zA.out).1; omega) | simpa using h_); obtain rfl := k77_openM hM27; have HP27 := Kd.R_seg HX27.out (x5_1 : Int) (of_decide_eq_true (by with_reducible assumption)) (by have h_ : (x5_1 : Int) < ((x0_1.length : Int) : Int) := of_decide_eq_true (by with_reducible assumption); first | exact h_ | (have e_ := (Kd.R_reads' zA.out).1; omega) | simpa using h_) (seg := [.int .i64 (wrap64 ((wrap64 ((wrap64 ((wrap64 ((wrap64 (x1_1 + 1)) + 1)) + 1)) + 1)) + 1))]) (j := 5) hcl27 hcc27 (show 6 ≤ 7 from by decide) (x' := (⟨(rd_T77 y289 x5_1).f0, (rd_T77 y289 x5_1).f1, (rd_T77 y289 x5_1).f2, (rd_T77 y289 x5_1).f3, (rd_T77 y289 x5_1).f4, wrap64 ((wrap64 ((wrap64 ((wrap64 ((wrap64 (x1_1 + 1)) + 1)) + 1)) + 1)) + 1), (rd_T77 y289 x5_1).f6⟩ : S77)) (k77_mkM _ _ _ (⟨(rd_T77 y289 x5_1).f0, (rd_T77 y289 x5_1).f1, (rd_T77 y289 x5_1).f2, (rd_T77 y289 x5_1).f3, (rd_T77 y289 x5_1).f4, wrap64 ((wrap64 ((wrap64 ((wrap64 ((wrap64 (x1_1 + 1)) + 1)) + 1)) + 1)) + 1), (rd_T77 y289 x5_1).f6⟩ : S77) ) (fun _ hk => hk); have hx27_5 := hcc27 5 _ rfl; (try simp only [show (k77).sz = 7 from rfl, Nat.mul_one, Nat.add_zero] at hx27_5); have hf27_5 := hfr27 5; (try simp only [show (k77).sz = 7 from rfl, Nat.mul_one, Nat.add_zero] at hf27_5); clear hcl27 hcc27 hfr27 hM27) | ((with_reducible refine gate_store (t := 2) (p := 53) rfl ?_); refine store_event (t := 2) (p := 53) (v := ?vo_w28) (w1 := (w26.setCell ⟨go6, (x5_1 : Int).toNat * 7 + 5, none⟩ (.int .i64 (wrap64 ((wrap64 ((wrap64 ((wrap64 ((wrap64 (x1_1 + 1)) + 1)) + 1)) + 1)) + 1))))) ?hg ?ho ?hn ?hr ?_; (case ho => rfl); (case hg => rfl); (case hn => rfl); (case hr => first | (go_simp; done) | (go_simp; rfl)); intro w28 hw; have hg : w26.grownBy w28 (some go6) := (by rw [hw]; exact HP27.2); have hp_ : Kd.R k77 77 w28 w0.heap.size (fun k_ => (P0_ k_ ∨ w.heap.size ≤ k_)) (.slice (some ⟨go6, 0, none⟩) x0_1.length co14) y290 := (by rw [hw, Ny290.out]; exact HP27.1); clear HP27; have n0_ := Aside0.mk (hp_); have n1_ := Aside0.mk ((by rw [hw]; exact zd (HB.out) GB6.out : Below w0.heap.size w0 w28)); have n2_ := Aside0.mk (Kept.of_grown (S := (fun k_ => P0_ k_)) hg (by exact kt HK.out) (fun k_ e_ => (zA.out.1 k_ e_))); clear zA; clear HB; clear HK; have zA := n0_; have HB := n1_; have HK := n2_; clear n0_ n1_ n2_; clear hg hw hp_; have p13 : 0 ≤ (x5_1 : Int) := of_decide_eq_true (by with_reducible assumption); have q13 : (x5_1 : Int) < ((x0_1.length : Int) : Int) := of_decide_eq_true (by with_reducible assumption); obtain ⟨ce13, hcl13, hM13, hcc13, hfr13⟩ := Kd.R_elem zA.out z77 (x5_1 : Int) p13 q13; obtain rfl := k77_openM hM13; have hx13_0 : w28.cell? ⟨go6, (x5_1 : Int).toNat * 7, none⟩ = some (.string ((rd_T77 y290 x5_1).f0)) := hcc13 0 _ rfl; have hx13_1 : w28.cell? ⟨go6, (x5_1 : Int).toNat * 7 + 1, none⟩ = some (.string ((rd_T77 y290 x5_1).f1)) := hcc13 1 _ rfl; have hx13_2 : w28.cell? ⟨go6, (x5_1 : Int).toNat * 7 + 2, none⟩ = some (.int .i64 ((rd_T77 y290 x5_1).f2)) := hcc13 2 _ rfl; have hx13_3 : w28.cell? ⟨go6, (x5_1 : Int).toNat * 7 + 3, none⟩ = some (.int .i64 ((rd_T77 y290 x5_1).f3)) := hcc13 3 _ rfl; have hx13_4 : w28.cell? ⟨go6, (x5_1 : Int).toNat * 7 + 4, none⟩ = some (.int .i64 ((rd_T77 y290 x5_1).f4)) := hcc13 4 _ rfl; have hx13_5 : w28.cell? ⟨go6, (x5_1 : Int).toNat * 7 + 5, none⟩ = some (.int .i64 ((rd_T77 y290 x5_1).f5)) := hcc13 5 _ rfl; have hx13_6 : w28.cell? ⟨go6, (x5_1 : Int).toNat * 7 + 6, none⟩ = some (.int .i64 ((rd_T77 y290 x5_1).f6)) := hcc13 6 _ rfl; have hf13_0 : w28.frozen? ⟨go6, (x5_1 : Int).toNat * 7, none⟩ = false := hfr13 0; have hf13_1 : w28.frozen? ⟨go6, (x5_1 : Int).toNat * 7 + 1, none⟩ = false := hfr13 1; have hf13_2 : w28.frozen? ⟨go6, (x5_1 : Int).toNat * 7 + 2, none⟩ = false := hfr13 2; have hf13_3 : w28.frozen? ⟨go6, (x5_1 : Int).toNat * 7 + 3, none⟩ = false := hfr13 3; have hf13_4 : w28.frozen? ⟨go6, (x5_1 : Int).toNat * 7 + 4, none⟩ = false := hfr13 4; have hf13_5 : w28.frozen? ⟨go6, (x5_1 : Int).toNat * 7 + 5, none⟩ = false := hfr13 5; have hf13_6 : w28.frozen? ⟨go6, (x5_1 : Int).toNat * 7 + 6, none⟩ = false := hfr13 6; clear hcl13 hcc13 hfr13 hM13; replace p13 := eq_true p13; replace q13 := eq_true q13; have HX29 := Aside0.mk (show Kd.R k77 77 w28 w0.heap.size (fun k_ => (P0_ k_ ∨ w.heap.size ≤ k_)) (.slice (some ⟨go6, 0, none⟩) x0_1.length co14) y290 from (RL zA.out)); obtain ⟨ce29, hcl29, hM29, hcc29, hfr29⟩ := Kd.R_elem HX29.out z77 (x5_1 : Int) (of_decide_eq_true (by with_reducible assumption)) (by have h_ : (x5_1 : Int) < ((x0_1.length : Int) : Int) := of_decide_eq_true (by with_reducible assumption); first | exact h_ | (have e_ := (Kd.R_reads' zA.out).1; omega) | simpa using h_); obtain rfl := k77_openM hM29; have HP29 := Kd.R_seg HX29.out (x5_1 : Int) (of_decide_eq_true (by with_reducible assumption)) (by have h_ : (x5_1 : Int) < ((x0_1.length : Int) : Int) := of_decide_eq_true (by with_reducible assumption); first | exact h_ | (have e_ := (Kd.R_reads' zA.out).1; omega) | simpa using h_) (seg := [.int .i64 (wrap64 ((wrap64 ((wrap64 ((wrap64 ((wrap64 ((wrap64 (x1_1 + 1)) + 1)) + 1)) + 1)) + 1)) + 1))]) (j := 6) hcl29 hcc29 (show 7 ≤ 7 from by decide) (x' := (⟨(rd_T77 y290 x5_1).f0, (rd_T77 y290 x5_1).f1, (rd_T77 y290 x5_1).f2, (rd_T77 y290 x5_1).f3, (rd_T77 y290 x5_1).f4, (rd_T77 y290 x5_1).f5, wrap64 ((wrap64 ((wrap64 ((wrap64 ((wrap64 ((wrap64 (x1_1 + 1)) + 1)) + 1)) + 1)) + 1)) + 1)⟩ : S77)) (k77_mkM _ _ _ (⟨(rd_T77 y290 x5_1).f0, (rd_T77 y290 x5_1).f1, (rd_T77 y290 x5_1).f2, (rd_T77 y290 x5_1).f3, (rd_T77 y290 x5_1).f4, (rd_T77 y290 x5_1).f5, wrap64 ((wrap64 ((wrap64 ((wrap64 ((wrap64 ((wrap64 (x1_1 + 1)) + 1)) + 1)) + 1)) + 1)) + 1)⟩ : S77) ) (fun _ hk => hk); have hx29_6 := hcc29 6 _ rfl; (try simp only [show (k77).sz = 7 from rfl, Nat.mul_one, Nat.add_zero] at hx29_6); have hf29_6 := hfr29 6; (try simp only [show (k77).sz = 7 from rfl, Nat.mul_one, Nat.add_zero] at hf29_6); clear hcl29 hcc29 hfr29 hM29) | ((with_reducible refine gate_store (t := 2) (p := 60) rfl ?_); refine store_event (t := 2) (p := 60) (v := ?vo_w30) (w1 := (w28.setCell ⟨go6, (x5_1 : Int).toNat * 7 + 6, none⟩ (.int .i64 (wrap64 ((wrap64 ((wrap64 ((wrap64 ((wrap64 ((wrap64 (x1_1 + 1)) + 1)) + 1)) + 1)) + 1)) + 1))))) ?hg ?ho ?hn ?hr ?_; (case ho => rfl); (case hg => rfl); (case hn => rfl); (case hr => first | (go_simp; done) | (go_simp; rfl)); intro w30 hw; have hg : w28.grownBy w30 (some go6) := (by rw [hw]; exact HP29.2); have hp_ : Kd.R k77 77 w30 w0.heap.size (fun k_ => (P0_ k_ ∨ w.heap.size ≤ k_)) (.slice (some ⟨go6, 0, none⟩) x0_1.length co14) y291 := (by rw [hw, Ny291.out]; exact HP29.1); clear HP29; have n0_ := Aside0.mk (hp_); have n1_ := Aside0.mk ((by rw [hw]; exact zd (HB.out) GB6.out : Below w0.heap.size w0 w30)); have n2_ := Aside0.mk (Kept.of_grown (S := (fun k_ => P0_ k_)) hg (by exact kt HK.out) (fun k_ e_ => (zA.out.1 k_ e_))); clear zA; clear HB; clear HK; have zA := n0_; have HB := n1_; have HK := n2_; clear n0_ n1_ n2_; clear hg hw hp_))
     go_roundg k1
     case measure => have := HK1.out; omega
     case rel => exact ⟨(y291), (wrap64 ((wrap64 ((wrap64 ((wrap64 ((wrap64 ((wrap64 ((wrap64 (x1_1 + 1)) + 1)) + 1)) + 1)) + 1)) + 1)) + 1)), (wrap64 (x5_1 + 1)), (by first | rfl | (simp [*]; done)), (by first | rfl | (simp [*]; done)), H', ⟨by have := HK1.out; omega⟩, ⟨RL zA.out⟩, ⟨by repeat (first | (with_reducible first | exact HK.out | apply Kept.alloc | apply Kept.drewN | apply Kept.drew) | exact HK.out)⟩, ⟨by repeat (first | (with_reducible first | exact HB.out | apply zh | apply zf | apply zg) | exact HB.out)⟩⟩
    ·rw [if_neg c5] at H
     exact absurd H (by simp)
   ·rw [if_neg c3] at H
    have c3b0 : decide (x5_1 < (x0_1.length : Int)) = false := decide_eq_false c3
    clear c3
    simp only [Option.some.injEq, Prod.mk.injEq] at H
    obtain ⟨rfl, rfl⟩ := H
    obtain ⟨Ao31, co31, eo31⟩ := Kd.R_slice zA.out
    subst eo31
    go_wp2
    go_ret
    exact ⟨by first | rfl | (simp [*] <;> rfl), RL zA.out, by repeat (first | (with_reducible first | exact HB.out | apply zh | apply zf | apply zg) | exact HB.out), by repeat (first | (with_reducible first | exact HK.out | apply Kept.alloc | apply Kept.drewN | apply Kept.drew) | exact HK.out)⟩

def laws_markTree.f (k : Nat) (l0_0 : List (S77)) (a1 : Int) : Option (Int × (List (S77))) := (laws_markNodeS.f k l0_0 a1).bind fun bt293 => (some (bt293.1, bt293.2))
theorem laws_markTree.mono : ∀ a0 a1 k, LeO (laws_markTree.f k a0 a1) (laws_markTree.f (k + 1) a0 a1) := by
 intro a0 a1 k
 unfold laws_markTree.f
 repeat' first
   | (with_reducible exact laws_markNodeS.mono _ _ _)
   | (with_reducible exact LeO.refl _)
   | (with_reducible exact LeO.none _)
   | (with_reducible refine LeO.ite ?_ ?_)
   | (with_reducible refine LeO.bind ?_ (fun _ => ?_))
   | exact laws_markNodeS.mono _ _ _
   | exact LeO.none _
   | refine LeO.ite ?_ ?_
   | refine LeO.bind ?_ (fun _ => ?_)
set_option maxHeartbeats 8000000 in
set_option maxRecDepth 100000 in
theorem laws_markTree.calls (k : Nat) (P0_0_ : Nat → Prop) (u9000_ : Value) (l0_0 : List (S77)) (a1 : Int) (r1 : Int) (r2 : List (S77)) (w0 w : World) (hB : Below w0.heap.size w0 w) (zD : Kd.R k77 77 w w0.heap.size P0_0_ u9000_ l0_0) (h : laws_markTree.f k l0_0 a1 = some (r1, r2)) :
  Calls Tryd.prog 24 #[.agg #[u9000_], .int .i64 a1] w fun e w' => e = .returned (.int .i64 r1) ∧ Kd.R k77 77 w' w0.heap.size (fun k_ => (P0_0_ k_ ∨ w.heap.size ≤ k_)) u9000_ r2 ∧ Below w0.heap.size w0 w' ∧ Kept w w' (fun k_ => P0_0_ k_) := by
 have hu25 := Tryd.underlying25
 have zA := Aside0.mk (show Kd.R k77 77 w w0.heap.size (fun k_ => (P0_0_ k_ ∨ w.heap.size ≤ k_)) u9000_ l0_0 from Kd.R_mono zD (fun k_ hk => (.inl hk)))
 have HK := Aside0.mk (Kept.refl w (fun k_ => P0_0_ k_))
 have HW0 := Aside0.mk hB.size
 have HB := Aside0.mk hB
 clear hB
 have H : ((laws_markNodeS.f k l0_0 a1).bind fun bt293 => (some (bt293.1, bt293.2))) = some (r1, r2) := h
 clear h
 replace H := Option.bind_eq_some_iff.mp H
 obtain ⟨⟨t293, t294⟩, A30, H⟩ := H
 try dsimp only at H
 have A3 := Aside0.mk A30
 clear A30
 simp only [Option.some.injEq, Prod.mk.injEq] at H
 obtain ⟨rfl, rfl⟩ := H
 obtain ⟨Ao4, co4, eo4⟩ := Kd.R_slice zA.out
 subst eo4
 go_enter Tryd.func24, Tryd.ntmps24
 go_wp2_with (first | ((with_reducible refine zu (N := 2) rfl ?_); refine zy ?hg (N := 2) ?hd (cs := #[.slice Ao4 l0_0.length co4]) (t := 25) ?hr ?_; (case hd => rfl); (case hg => rfl); (case hr => first | (go_simp; done) | (go_simp; rfl)); intro zC hg w5 hbox hb; have n0_ := Aside0.mk (Kd.R_below (RL zA.out) hb); have n1_ := Aside0.mk (Kept.below (S := (fun k_ => P0_0_ k_)) (by exact kt HK.out) hb); have n2_ := Aside0.mk (zn (by exact bl HB.out) hb); have n3_ := Aside0.mk (hbox); have n4_ := Aside0.mk ((by rw [hg]; exact (by first | exact HK.out.1 | exact (show Kept w _ (fun k_ => P0_0_ k_) from by exact kt HK.out).1) : w.heap.size ≤ zC)); have n5_ := Aside0.mk ((by rw [hg]; exact (zm (by exact bl HB.out)) : w0.heap.size ≤ zC)); clear zA; clear HK; clear HB; have zA := n0_; have HK := n1_; have HB := n2_; have zB := n3_; have GW292 := n4_; have zE := n5_; clear n0_ n1_ n2_ n3_ n4_ n5_; clear hb hbox hg; have zF : w5.cell? ⟨zC, 0, none⟩ = some (.slice Ao4 l0_0.length co4) := (zc zB.out 0).trans rfl; have zG := ze zB.out 0) | ((with_reducible refine zr (f := 69) rfl ?_); refine zz (some 8) rfl rfl Tryd.func69 (by kernel_rfl) rfl #[.slice Ao4 l0_0.length co4, .int .i64 a1] rfl (by (try simp only [List.map_toArray, List.map_cons, List.map_nil]); first | done | rfl) ?_; (with_reducible refine (laws_markNodeS.calls k (fun k_ => some k_ = (.slice Ao4 l0_0.length co4 : Value).ownBlock) (.slice Ao4 l0_0.length co4) l0_0 a1 t293 t294 w0 _ ?side1 ?side2 A3.out).mono ?_); (case side1 => exact bl HB.out); (case side2 => exact Kd.R_tight rfl zA.out); rintro e w7 ⟨rfl, hy0, hb, hkp⟩; refine ⟨_, rfl, ?_⟩; have n0_ := Aside0.mk (Kd.R_reok rfl hy0 (fun k_ e_ => zA.out.1 k_ e_)); have n1_ := Aside0.mk (blk_kept (BL zB.out) hkp (fun hs_ => (fun e_ => (Kd.R_ne zA.out zB.out (by decide)) e_) hs_)); have n2_ := Aside0.mk (Kept.then_ (S := (fun k_ => P0_0_ k_)) (by exact kt HK.out) hkp (fun k_ hs_ => (fun e_ => (zA.out.1 k_ e_.symm)) hs_)); have n3_ := Aside0.mk (hb); clear zA; clear zB; clear HK; clear HB; have zA := n0_; have zB := n1_; have HK := n2_; have HB := n3_; clear n0_ n1_ n2_ n3_; (try clear hb); (try clear hkp); (try clear hy0)))
 go_ret
 exact ⟨by first | rfl | (simp [*] <;> rfl), RL zA.out, by repeat (first | (with_reducible first | exact HB.out | apply zh | apply zf | apply zg | refine zd ?_ zE.out) | exact HB.out), by repeat (first | (with_reducible first | exact HK.out | apply Kept.alloc | apply Kept.drewN | apply Kept.drew | refine Kept.setCell ?_ (.inr GW292.out) _) | exact HK.out)⟩

def laws_markEffectS.l0 : Nat → List (S108) → Int → Int → Option (Int × (List (S108)))
 | 0, _, _, _ => none
 | k + 1, x0, x1, x5 => if x5 < (x0.length : Int) then (if 0 ≤ x5 then ((some (x0.set (x5 : Int).toNat (⟨((Int.tmod x1 3) == 0), (⟨(rd_T108 x0 x5).f1.f0, (rd_T108 x0 x5).f1.f1, (rd_T108 x0 x5).f1.f2, (rd_T108 x0 x5).f1.f3, (rd_T108 x0 x5).f1.f4, (rd_T108 x0 x5).f1.f5, (rd_T108 x0 x5).f1.f6⟩ : S77)⟩ : S108) : List (S108))).bind fun y295 => ((laws_markText.f k (wrap64 (x1 + 1))).bind fun t296 => ((some (y295.set (x5 : Int).toNat (⟨(rd_T108 y295 x5).f0, (⟨t296, (rd_T108 y295 x5).f1.f1, (rd_T108 y295 x5).f1.f2, (rd_T108 y295 x5).f1.f3, (rd_T108 y295 x5).f1.f4, (rd_T108 y295 x5).f1.f5, (rd_T108 y295 x5).f1.f6⟩ : S77)⟩ : S108) : List (S108))).bind fun y297 => ((laws_markText.f k (wrap64 ((wrap64 (x1 + 1)) + 1))).bind fun t298 => ((some (y297.set (x5 : Int).toNat (⟨(rd_T108 y297 x5).f0, (⟨(rd_T108 y297 x5).f1.f0, t298, (rd_T108 y297 x5).f1.f2, (rd_T108 y297 x5).f1.f3, (rd_T108 y297 x5).f1.f4, (rd_T108 y297 x5).f1.f5, (rd_T108 y297 x5).f1.f6⟩ : S77)⟩ : S108) : List (S108))).bind fun y299 => ((some (y299.set (x5 : Int).toNat (⟨(rd_T108 y299 x5).f0, (⟨(rd_T108 y299 x5).f1.f0, (rd_T108 y299 x5).f1.f1, wrap64 ((wrap64 ((wrap64 (x1 + 1)) + 1)) + 1), (rd_T108 y299 x5).f1.f3, (rd_T108 y299 x5).f1.f4, (rd_T108 y299 x5).f1.f5, (rd_T108 y299 x5).f1.f6⟩ : S77)⟩ : S108) : List (S108))).bind fun y300 => ((some (y300.set (x5 : Int).toNat (⟨(rd_T108 y300 x5).f0, (⟨(rd_T108 y300 x5).f1.f0, (rd_T108 y300 x5).f1.f1, (rd_T108 y300 x5).f1.f2, wrap64 ((wrap64 ((wrap64 ((wrap64 (x1 + 1)) + 1)) + 1)) + 1), (rd_T108 y300 x5).f1.f4, (rd_T108 y300 x5).f1.f5, (rd_T108 y300 x5).f1.f6⟩ : S77)⟩ : S108) : List (S108))).bind fun y301 => ((some (y301.set (x5 : Int).toNat (⟨(rd_T108 y301 x5).f0, (⟨(rd_T108 y301 x5).f1.f0, (rd_T108 y301 x5).f1.f1, (rd_T108 y301 x5).f1.f2, (rd_T108 y301 x5).f1.f3, wrap64 ((wrap64 ((wrap64 ((wrap64 ((wrap64 (x1 + 1)) + 1)) + 1)) + 1)) + 1), (rd_T108 y301 x5).f1.f5, (rd_T108 y301 x5).f1.f6⟩ : S77)⟩ : S108) : List (S108))).bind fun y302 => ((some (y302.set (x5 : Int).toNat (⟨(rd_T108 y302 x5).f0, (⟨(rd_T108 y302 x5).f1.f0, (rd_T108 y302 x5).f1.f1, (rd_T108 y302 x5).f1.f2, (rd_T108 y302 x5).f1.f3, (rd_T108 y302 x5).f1.f4, wrap64 ((wrap64 ((wrap64 ((wrap64 ((wrap64 ((wrap64 (x1 + 1)) + 1)) + 1)) + 1)) + 1)) + 1), (rd_T108 y302 x5).f1.f6⟩ : S77)⟩ : S108) : List (S108))).bind fun y303 => (laws_markEffectS.l0 k (y303.set (x5 : Int).toNat (⟨(rd_T108 y303 x5).f0, (⟨(rd_T108 y303 x5).f1.f0, (rd_T108 y303 x5).f1.f1, (rd_T108 y303 x5).f1.f2, (rd_T108 y303 x5).f1.f3, (rd_T108 y303 x5).f1.f4, (rd_T108 y303 x5).f1.f5, wrap64 ((wrap64 ((wrap64 ((wrap64 ((wrap64 ((wrap64 ((wrap64 (x1 + 1)) + 1)) + 1)) + 1)) + 1)) + 1)) + 1)⟩ : S77)⟩ : S108)) (wrap64 ((wrap64 ((wrap64 ((wrap64 ((wrap64 ((wrap64 ((wrap64 ((wrap64 (x1 + 1)) + 1)) + 1)) + 1)) + 1)) + 1)) + 1)) + 1)) (wrap64 (x5 + 1)))))))))))) else (none)) else (some (x1, x0))
def laws_markEffectS.f (k : Nat) (l0 : List (S108)) (a1 : Int) : Option (Int × (List (S108))) := laws_markEffectS.l0 k l0 a1 0
theorem laws_markEffectS.mono_l : ∀ k, (∀ y0 y1 y2, LeO (laws_markEffectS.l0 k y0 y1 y2) (laws_markEffectS.l0 (k + 1) y0 y1 y2))
 | 0 => fun _ _ _ r h => by simp [laws_markEffectS.l0] at h
 | k + 1 => by
  have ih0 := laws_markEffectS.mono_l k
  ·intro y0 y1 y2
   unfold laws_markEffectS.l0
   repeat' first
   | (with_reducible exact ih0 _ _ _)
   | (with_reducible exact laws_markText.mono _ _)
   | (with_reducible exact LeO.refl _)
   | (with_reducible exact LeO.none _)
   | (with_reducible refine LeO.ite ?_ ?_)
   | (with_reducible refine LeO.bind ?_ (fun _ => ?_))
   | exact ih0 _ _ _
   | exact laws_markText.mono _ _
   | exact LeO.none _
   | refine LeO.ite ?_ ?_
   | refine LeO.bind ?_ (fun _ => ?_)
theorem laws_markEffectS.mono : ∀ a0 a1 k, LeO (laws_markEffectS.f k a0 a1) (laws_markEffectS.f (k + 1) a0 a1) := by
 intro a0 a1 k
 have ih0 := laws_markEffectS.mono_l k
 unfold laws_markEffectS.f
 repeat' first
   | (with_reducible exact ih0 _ _ _)
   | (with_reducible exact laws_markText.mono _ _)
   | (with_reducible exact LeO.refl _)
   | (with_reducible exact LeO.none _)
   | (with_reducible refine LeO.ite ?_ ?_)
   | (with_reducible refine LeO.bind ?_ (fun _ => ?_))
   | exact ih0 _ _ _
   | exact laws_markText.mono _ _
   | exact LeO.none _
   | refine LeO.ite ?_ ?_
   | refine LeO.bind ?_ (fun _ => ?_)
set_option maxHeartbeats 8000000 in
set_option maxRecDepth 100000 in
theorem laws_markEffectS.calls (k : Nat) (P0_ : Nat → Prop) (u9000_ : Value) (l0 : List (S108)) (a1 : Int) (r1 : Int) (r2 : List (S108)) (w0 w : World) (hB : Below w0.heap.size w0 w) (zC : Kd.R k108 108 w w0.heap.size P0_ u9000_ l0) (h : laws_markEffectS.f k l0 a1 = some (r1, r2)) :
  Calls Tryd.prog 70 #[u9000_, .int .i64 a1] w fun e w' => e = .returned (.int .i64 r1) ∧ Kd.R k108 108 w' w0.heap.size (fun k_ => (P0_ k_ ∨ w.heap.size ≤ k_)) u9000_ r2 ∧ Below w0.heap.size w0 w' ∧ Kept w w' (fun k_ => P0_ k_) := by
 have zD := Aside0.mk (show Kd.R k108 108 w w0.heap.size (fun k_ => (P0_ k_ ∨ w.heap.size ≤ k_)) u9000_ l0 from Kd.R_mono zC (fun k_ hk => (.inl hk)))
 have HK := Aside0.mk (Kept.refl w (fun k_ => P0_ k_))
 have HW0 := Aside0.mk hB.size
 have HB := Aside0.mk hB
 clear hB
 have H : (laws_markEffectS.l0 k l0 a1 0) = some (r1, r2) := h
 clear h
 have H' := Aside0.mk H
 clear H
 go_enter Tryd.func70, Tryd.ntmps70
 go_wp2
 go_loopg [1, 5] k (fun kq v1 v5 w' => ∃ (x0_1 : List (S108)) (x1_1 : Int) (x5_1 : Int), v1 = .int .i64 x1_1 ∧ v5 = .int .i64 x5_1 ∧ Aside0 (laws_markEffectS.l0 kq x0_1 x1_1 x5_1 = some (r1, r2)) ∧ Aside0 (kq ≤ k) ∧ Aside0 (Kd.R k108 108 w' w0.heap.size (fun k_ => (P0_ k_ ∨ w.heap.size ≤ k_)) u9000_ x0_1) ∧ Aside0 (Kept w w' (fun k_ => P0_ k_)) ∧ Aside0 (Below w0.heap.size w0 w'))
 case atStart => exact ⟨(l0), (a1), (0), (by first | rfl | (simp [*]; done)), (by first | rfl | (simp [*]; done)), H', ⟨Nat.le_refl _⟩, ⟨RL zD.out⟩, ⟨by repeat (first | (with_reducible first | exact HK.out | apply Kept.alloc | apply Kept.drewN | apply Kept.drew) | exact HK.out)⟩, ⟨by repeat (first | (with_reducible first | exact HB.out | apply zh | apply zf | apply zg) | exact HB.out)⟩⟩
 case round =>
  clear H'
  try clear p2
  obtain ⟨x0_1, x1_1, x5_1, rfl, rfl, HA, HK1, zA, HK, HB⟩ := hrel
  cases gk with
  | zero => exact absurd HA.out (by simp [laws_markEffectS.l0])
  | succ k1 =>
   have H := HA.out
   clear HA
   simp only [laws_markEffectS.l0] at H
   by_cases c3 : x5_1 < (x0_1.length : Int)
   ·rw [if_pos c3] at H
    have c3b0 : decide (x5_1 < (x0_1.length : Int)) = true := decide_eq_true c3
    clear c3
    by_cases c4 : 0 ≤ x5_1
    ·rw [if_pos c4] at H
     have c4b0 : decide (0 ≤ x5_1) = true := decide_eq_true c4
     clear c4
     obtain ⟨y295, hy295⟩ : ∃ y_ : List (S108), y_ = (x0_1.set (x5_1 : Int).toNat (⟨((Int.tmod x1_1 3) == 0), (⟨(rd_T108 x0_1 x5_1).f1.f0, (rd_T108 x0_1 x5_1).f1.f1, (rd_T108 x0_1 x5_1).f1.f2, (rd_T108 x0_1 x5_1).f1.f3, (rd_T108 x0_1 x5_1).f1.f4, (rd_T108 x0_1 x5_1).f1.f5, (rd_T108 x0_1 x5_1).f1.f6⟩ : S77)⟩ : S108)) := ⟨_, rfl⟩
     replace H : ((laws_markText.f k1 (wrap64 (x1_1 + 1))).bind fun t296 => ((some (y295.set (x5_1 : Int).toNat (⟨(rd_T108 y295 x5_1).f0, (⟨t296, (rd_T108 y295 x5_1).f1.f1, (rd_T108 y295 x5_1).f1.f2, (rd_T108 y295 x5_1).f1.f3, (rd_T108 y295 x5_1).f1.f4, (rd_T108 y295 x5_1).f1.f5, (rd_T108 y295 x5_1).f1.f6⟩ : S77)⟩ : S108) : List (S108))).bind fun y297 => ((laws_markText.f k1 (wrap64 ((wrap64 (x1_1 + 1)) + 1))).bind fun t298 => ((some (y297.set (x5_1 : Int).toNat (⟨(rd_T108 y297 x5_1).f0, (⟨(rd_T108 y297 x5_1).f1.f0, t298, (rd_T108 y297 x5_1).f1.f2, (rd_T108 y297 x5_1).f1.f3, (rd_T108 y297 x5_1).f1.f4, (rd_T108 y297 x5_1).f1.f5, (rd_T108 y297 x5_1).f1.f6⟩ : S77)⟩ : S108) : List (S108))).bind fun y299 => ((some (y299.set (x5_1 : Int).toNat (⟨(rd_T108 y299 x5_1).f0, (⟨(rd_T108 y299 x5_1).f1.f0, (rd_T108 y299 x5_1).f1.f1, wrap64 ((wrap64 ((wrap64 (x1_1 + 1)) + 1)) + 1), (rd_T108 y299 x5_1).f1.f3, (rd_T108 y299 x5_1).f1.f4, (rd_T108 y299 x5_1).f1.f5, (rd_T108 y299 x5_1).f1.f6⟩ : S77)⟩ : S108) : List (S108))).bind fun y300 => ((some (y300.set (x5_1 : Int).toNat (⟨(rd_T108 y300 x5_1).f0, (⟨(rd_T108 y300 x5_1).f1.f0, (rd_T108 y300 x5_1).f1.f1, (rd_T108 y300 x5_1).f1.f2, wrap64 ((wrap64 ((wrap64 ((wrap64 (x1_1 + 1)) + 1)) + 1)) + 1), (rd_T108 y300 x5_1).f1.f4, (rd_T108 y300 x5_1).f1.f5, (rd_T108 y300 x5_1).f1.f6⟩ : S77)⟩ : S108) : List (S108))).bind fun y301 => ((some (y301.set (x5_1 : Int).toNat (⟨(rd_T108 y301 x5_1).f0, (⟨(rd_T108 y301 x5_1).f1.f0, (rd_T108 y301 x5_1).f1.f1, (rd_T108 y301 x5_1).f1.f2, (rd_T108 y301 x5_1).f1.f3, wrap64 ((wrap64 ((wrap64 ((wrap64 ((wrap64 (x1_1 + 1)) + 1)) + 1)) + 1)) + 1), (rd_T108 y301 x5_1).f1.f5, (rd_T108 y301 x5_1).f1.f6⟩ : S77)⟩ : S108) : List (S108))).bind fun y302 => ((some (y302.set (x5_1 : Int).toNat (⟨(rd_T108 y302 x5_1).f0, (⟨(rd_T108 y302 x5_1).f1.f0, (rd_T108 y302 x5_1).f1.f1, (rd_T108 y302 x5_1).f1.f2, (rd_T108 y302 x5_1).f1.f3, (rd_T108 y302 x5_1).f1.f4, wrap64 ((wrap64 ((wrap64 ((wrap64 ((wrap64 ((wrap64 (x1_1 + 1)) + 1)) + 1)) + 1)) + 1)) + 1), (rd_T108 y302 x5_1).f1.f6⟩ : S77)⟩ : S108) : List (S108))).bind fun y303 => (laws_markEffectS.l0 k1 (y303.set (x5_1 : Int).toNat (⟨(rd_T108 y303 x5_1).f0, (⟨(rd_T108 y303 x5_1).f1.f0, (rd_T108 y303 x5_1).f1.f1, (rd_T108 y303 x5_1).f1.f2, (rd_T108 y303 x5_1).f1.f3, (rd_T108 y303 x5_1).f1.f4, (rd_T108 y303 x5_1).f1.f5, wrap64 ((wrap64 ((wrap64 ((wrap64 ((wrap64 ((wrap64 ((wrap64 (x1_1 + 1)) + 1)) + 1)) + 1)) + 1)) + 1)) + 1)⟩ : S77)⟩ : S108)) (wrap64 ((wrap64 ((wrap64 ((wrap64 ((wrap64 ((wrap64 ((wrap64 ((wrap64 (x1_1 + 1)) + 1)) + 1)) + 1)) + 1)) + 1)) + 1)) + 1)) (wrap64 (x5_1 + 1))))))))))) = some (r1, r2) := by first | (rw [hy295]; with_reducible exact H) | (have H2_ := (Option.bind_some _ _).symm.trans H; rw [hy295]; with_reducible exact H2_) | (have H2_ := (Option.bind_some _ _).symm.trans H; with_reducible exact H2_) | with_reducible exact H | (rw [hy295]; exact H) | exact H
     have Ny295 := Aside0.mk hy295
     clear hy295
     replace H := Option.bind_eq_some_iff.mp H
     obtain ⟨t296, A60, H⟩ := H
     try dsimp only at H
     have A6 := Aside0.mk A60
     clear A60
     obtain ⟨y297, hy297⟩ : ∃ y_ : List (S108), y_ = (y295.set (x5_1 : Int).toNat (⟨(rd_T108 y295 x5_1).f0, (⟨t296, (rd_T108 y295 x5_1).f1.f1, (rd_T108 y295 x5_1).f1.f2, (rd_T108 y295 x5_1).f1.f3, (rd_T108 y295 x5_1).f1.f4, (rd_T108 y295 x5_1).f1.f5, (rd_T108 y295 x5_1).f1.f6⟩ : S77)⟩ : S108)) := ⟨_, rfl⟩
     replace H : ((laws_markText.f k1 (wrap64 ((wrap64 (x1_1 + 1)) + 1))).bind fun t298 => ((some (y297.set (x5_1 : Int).toNat (⟨(rd_T108 y297 x5_1).f0, (⟨(rd_T108 y297 x5_1).f1.f0, t298, (rd_T108 y297 x5_1).f1.f2, (rd_T108 y297 x5_1).f1.f3, (rd_T108 y297 x5_1).f1.f4, (rd_T108 y297 x5_1).f1.f5, (rd_T108 y297 x5_1).f1.f6⟩ : S77)⟩ : S108) : List (S108))).bind fun y299 => ((some (y299.set (x5_1 : Int).toNat (⟨(rd_T108 y299 x5_1).f0, (⟨(rd_T108 y299 x5_1).f1.f0, (rd_T108 y299 x5_1).f1.f1, wrap64 ((wrap64 ((wrap64 (x1_1 + 1)) + 1)) + 1), (rd_T108 y299 x5_1).f1.f3, (rd_T108 y299 x5_1).f1.f4, (rd_T108 y299 x5_1).f1.f5, (rd_T108 y299 x5_1).f1.f6⟩ : S77)⟩ : S108) : List (S108))).bind fun y300 => ((some (y300.set (x5_1 : Int).toNat (⟨(rd_T108 y300 x5_1).f0, (⟨(rd_T108 y300 x5_1).f1.f0, (rd_T108 y300 x5_1).f1.f1, (rd_T108 y300 x5_1).f1.f2, wrap64 ((wrap64 ((wrap64 ((wrap64 (x1_1 + 1)) + 1)) + 1)) + 1), (rd_T108 y300 x5_1).f1.f4, (rd_T108 y300 x5_1).f1.f5, (rd_T108 y300 x5_1).f1.f6⟩ : S77)⟩ : S108) : List (S108))).bind fun y301 => ((some (y301.set (x5_1 : Int).toNat (⟨(rd_T108 y301 x5_1).f0, (⟨(rd_T108 y301 x5_1).f1.f0, (rd_T108 y301 x5_1).f1.f1, (rd_T108 y301 x5_1).f1.f2, (rd_T108 y301 x5_1).f1.f3, wrap64 ((wrap64 ((wrap64 ((wrap64 ((wrap64 (x1_1 + 1)) + 1)) + 1)) + 1)) + 1), (rd_T108 y301 x5_1).f1.f5, (rd_T108 y301 x5_1).f1.f6⟩ : S77)⟩ : S108) : List (S108))).bind fun y302 => ((some (y302.set (x5_1 : Int).toNat (⟨(rd_T108 y302 x5_1).f0, (⟨(rd_T108 y302 x5_1).f1.f0, (rd_T108 y302 x5_1).f1.f1, (rd_T108 y302 x5_1).f1.f2, (rd_T108 y302 x5_1).f1.f3, (rd_T108 y302 x5_1).f1.f4, wrap64 ((wrap64 ((wrap64 ((wrap64 ((wrap64 ((wrap64 (x1_1 + 1)) + 1)) + 1)) + 1)) + 1)) + 1), (rd_T108 y302 x5_1).f1.f6⟩ : S77)⟩ : S108) : List (S108))).bind fun y303 => (laws_markEffectS.l0 k1 (y303.set (x5_1 : Int).toNat (⟨(rd_T108 y303 x5_1).f0, (⟨(rd_T108 y303 x5_1).f1.f0, (rd_T108 y303 x5_1).f1.f1, (rd_T108 y303 x5_1).f1.f2, (rd_T108 y303 x5_1).f1.f3, (rd_T108 y303 x5_1).f1.f4, (rd_T108 y303 x5_1).f1.f5, wrap64 ((wrap64 ((wrap64 ((wrap64 ((wrap64 ((wrap64 ((wrap64 (x1_1 + 1)) + 1)) + 1)) + 1)) + 1)) + 1)) + 1)⟩ : S77)⟩ : S108)) (wrap64 ((wrap64 ((wrap64 ((wrap64 ((wrap64 ((wrap64 ((wrap64 ((wrap64 (x1_1 + 1)) + 1)) + 1)) + 1)) + 1)) + 1)) + 1)) + 1)) (wrap64 (x5_1 + 1))))))))) = some (r1, r2) := by first | (rw [hy297]; with_reducible exact H) | (have H2_ := (Option.bind_some _ _).symm.trans H; rw [hy297]; with_reducible exact H2_) | (have H2_ := (Option.bind_some _ _).symm.trans H; with_reducible exact H2_) | with_reducible exact H | (rw [hy297]; exact H) | exact H
     have Ny297 := Aside0.mk hy297
     clear hy297
     replace H := Option.bind_eq_some_iff.mp H
     obtain ⟨t298, A80, H⟩ := H
     try dsimp only at H
     have A8 := Aside0.mk A80
     clear A80
     obtain ⟨y299, hy299⟩ : ∃ y_ : List (S108), y_ = (y297.set (x5_1 : Int).toNat (⟨(rd_T108 y297 x5_1).f0, (⟨(rd_T108 y297 x5_1).f1.f0, t298, (rd_T108 y297 x5_1).f1.f2, (rd_T108 y297 x5_1).f1.f3, (rd_T108 y297 x5_1).f1.f4, (rd_T108 y297 x5_1).f1.f5, (rd_T108 y297 x5_1).f1.f6⟩ : S77)⟩ : S108)) := ⟨_, rfl⟩
     replace H : ((some (y299.set (x5_1 : Int).toNat (⟨(rd_T108 y299 x5_1).f0, (⟨(rd_T108 y299 x5_1).f1.f0, (rd_T108 y299 x5_1).f1.f1, wrap64 ((wrap64 ((wrap64 (x1_1 + 1)) + 1)) + 1), (rd_T108 y299 x5_1).f1.f3, (rd_T108 y299 x5_1).f1.f4, (rd_T108 y299 x5_1).f1.f5, (rd_T108 y299 x5_1).f1.f6⟩ : S77)⟩ : S108) : List (S108))).bind fun y300 => ((some (y300.set (x5_1 : Int).toNat (⟨(rd_T108 y300 x5_1).f0, (⟨(rd_T108 y300 x5_1).f1.f0, (rd_T108 y300 x5_1).f1.f1, (rd_T108 y300 x5_1).f1.f2, wrap64 ((wrap64 ((wrap64 ((wrap64 (x1_1 + 1)) + 1)) + 1)) + 1), (rd_T108 y300 x5_1).f1.f4, (rd_T108 y300 x5_1).f1.f5, (rd_T108 y300 x5_1).f1.f6⟩ : S77)⟩ : S108) : List (S108))).bind fun y301 => ((some (y301.set (x5_1 : Int).toNat (⟨(rd_T108 y301 x5_1).f0, (⟨(rd_T108 y301 x5_1).f1.f0, (rd_T108 y301 x5_1).f1.f1, (rd_T108 y301 x5_1).f1.f2, (rd_T108 y301 x5_1).f1.f3, wrap64 ((wrap64 ((wrap64 ((wrap64 ((wrap64 (x1_1 + 1)) + 1)) + 1)) + 1)) + 1), (rd_T108 y301 x5_1).f1.f5, (rd_T108 y301 x5_1).f1.f6⟩ : S77)⟩ : S108) : List (S108))).bind fun y302 => ((some (y302.set (x5_1 : Int).toNat (⟨(rd_T108 y302 x5_1).f0, (⟨(rd_T108 y302 x5_1).f1.f0, (rd_T108 y302 x5_1).f1.f1, (rd_T108 y302 x5_1).f1.f2, (rd_T108 y302 x5_1).f1.f3, (rd_T108 y302 x5_1).f1.f4, wrap64 ((wrap64 ((wrap64 ((wrap64 ((wrap64 ((wrap64 (x1_1 + 1)) + 1)) + 1)) + 1)) + 1)) + 1), (rd_T108 y302 x5_1).f1.f6⟩ : S77)⟩ : S108) : List (S108))).bind fun y303 => (laws_markEffectS.l0 k1 (y303.set (x5_1 : Int).toNat (⟨(rd_T108 y303 x5_1).f0, (⟨(rd_T108 y303 x5_1).f1.f0, (rd_T108 y303 x5_1).f1.f1, (rd_T108 y303 x5_1).f1.f2, (rd_T108 y303 x5_1).f1.f3, (rd_T108 y303 x5_1).f1.f4, (rd_T108 y303 x5_1).f1.f5, wrap64 ((wrap64 ((wrap64 ((wrap64 ((wrap64 ((wrap64 ((wrap64 (x1_1 + 1)) + 1)) + 1)) + 1)) + 1)) + 1)) + 1)⟩ : S77)⟩ : S108)) (wrap64 ((wrap64 ((wrap64 ((wrap64 ((wrap64 ((wrap64 ((wrap64 ((wrap64 (x1_1 + 1)) + 1)) + 1)) + 1)) + 1)) + 1)) + 1)) + 1)) (wrap64 (x5_1 + 1))))))) = some (r1, r2) := by first | (rw [hy299]; with_reducible exact H) | (have H2_ := (Option.bind_some _ _).symm.trans H; rw [hy299]; with_reducible exact H2_) | (have H2_ := (Option.bind_some _ _).symm.trans H; with_reducible exact H2_) | with_reducible exact H | (rw [hy299]; exact H) | exact H
     have Ny299 := Aside0.mk hy299
     clear hy299
     obtain ⟨y300, hy300⟩ : ∃ y_ : List (S108), y_ = (y299.set (x5_1 : Int).toNat (⟨(rd_T108 y299 x5_1).f0, (⟨(rd_T108 y299 x5_1).f1.f0, (rd_T108 y299 x5_1).f1.f1, wrap64 ((wrap64 ((wrap64 (x1_1 + 1)) + 1)) + 1), (rd_T108 y299 x5_1).f1.f3, (rd_T108 y299 x5_1).f1.f4, (rd_T108 y299 x5_1).f1.f5, (rd_T108 y299 x5_1).f1.f6⟩ : S77)⟩ : S108)) := ⟨_, rfl⟩
     replace H : ((some (y300.set (x5_1 : Int).toNat (⟨(rd_T108 y300 x5_1).f0, (⟨(rd_T108 y300 x5_1).f1.f0, (rd_T108 y300 x5_1).f1.f1, (rd_T108 y300 x5_1).f1.f2, wrap64 ((wrap64 ((wrap64 ((wrap64 (x1_1 + 1)) + 1)) + 1)) + 1), (rd_T108 y300 x5_1).f1.f4, (rd_T108 y300 x5_1).f1.f5, (rd_T108 y300 x5_1).f1.f6⟩ : S77)⟩ : S108) : List (S108))).bind fun y301 => ((some (y301.set (x5_1 : Int).toNat (⟨(rd_T108 y301 x5_1).f0, (⟨(rd_T108 y301 x5_1).f1.f0, (rd_T108 y301 x5_1).f1.f1, (rd_T108 y301 x5_1).f1.f2, (rd_T108 y301 x5_1).f1.f3, wrap64 ((wrap64 ((wrap64 ((wrap64 ((wrap64 (x1_1 + 1)) + 1)) + 1)) + 1)) + 1), (rd_T108 y301 x5_1).f1.f5, (rd_T108 y301 x5_1).f1.f6⟩ : S77)⟩ : S108) : List (S108))).bind fun y302 => ((some (y302.set (x5_1 : Int).toNat (⟨(rd_T108 y302 x5_1).f0, (⟨(rd_T108 y302 x5_1).f1.f0, (rd_T108 y302 x5_1).f1.f1, (rd_T108 y302 x5_1).f1.f2, (rd_T108 y302 x5_1).f1.f3, (rd_T108 y302 x5_1).f1.f4, wrap64 ((wrap64 ((wrap64 ((wrap64 ((wrap64 ((wrap64 (x1_1 + 1)) + 1)) + 1)) + 1)) + 1)) + 1), (rd_T108 y302 x5_1).f1.f6⟩ : S77)⟩ : S108) : List (S108))).bind fun y303 => (laws_markEffectS.l0 k1 (y303.set (x5_1 : Int).toNat (⟨(rd_T108 y303 x5_1).f0, (⟨(rd_T108 y303 x5_1).f1.f0, (rd_T108 y303 x5_1).f1.f1, (rd_T108 y303 x5_1).f1.f2, (rd_T108 y303 x5_1).f1.f3, (rd_T108 y303 x5_1).f1.f4, (rd_T108 y303 x5_1).f1.f5, wrap64 ((wrap64 ((wrap64 ((wrap64 ((wrap64 ((wrap64 ((wrap64 (x1_1 + 1)) + 1)) + 1)) + 1)) + 1)) + 1)) + 1)⟩ : S77)⟩ : S108)) (wrap64 ((wrap64 ((wrap64 ((wrap64 ((wrap64 ((wrap64 ((wrap64 ((wrap64 (x1_1 + 1)) + 1)) + 1)) + 1)) + 1)) + 1)) + 1)) + 1)) (wrap64 (x5_1 + 1)))))) = some (r1, r2) := by first | (rw [hy300]; with_reducible exact H) | (have H2_ := (Option.bind_some _ _).symm.trans H; rw [hy300]; with_reducible exact H2_) | (have H2_ := (Option.bind_some _ _).symm.trans H; with_reducible exact H2_) | with_reducible exact H | (rw [hy300]; exact H) | exact H
     have Ny300 := Aside0.mk hy300
     clear hy300
     obtain ⟨y301, hy301⟩ : ∃ y_ : List (S108), y_ = (y300.set (x5_1 : Int).toNat (⟨(rd_T108 y300 x5_1).f0, (⟨(rd_T108 y300 x5_1).f1.f0, (rd_T108 y300 x5_1).f1.f1, (rd_T108 y300 x5_1).f1.f2, wrap64 ((wrap64 ((wrap64 ((wrap64 (x1_1 + 1)) + 1)) + 1)) + 1), (rd_T108 y300 x5_1).f1.f4, (rd_T108 y300 x5_1).f1.f5, (rd_T108 y300 x5_1).f1.f6⟩ : S77)⟩ : S108)) := ⟨_, rfl⟩
     replace H : ((some (y301.set (x5_1 : Int).toNat (⟨(rd_T108 y301 x5_1).f0, (⟨(rd_T108 y301 x5_1).f1.f0, (rd_T108 y301 x5_1).f1.f1, (rd_T108 y301 x5_1).f1.f2, (rd_T108 y301 x5_1).f1.f3, wrap64 ((wrap64 ((wrap64 ((wrap64 ((wrap64 (x1_1 + 1)) + 1)) + 1)) + 1)) + 1), (rd_T108 y301 x5_1).f1.f5, (rd_T108 y301 x5_1).f1.f6⟩ : S77)⟩ : S108) : List (S108))).bind fun y302 => ((some (y302.set (x5_1 : Int).toNat (⟨(rd_T108 y302 x5_1).f0, (⟨(rd_T108 y302 x5_1).f1.f0, (rd_T108 y302 x5_1).f1.f1, (rd_T108 y302 x5_1).f1.f2, (rd_T108 y302 x5_1).f1.f3, (rd_T108 y302 x5_1).f1.f4, wrap64 ((wrap64 ((wrap64 ((wrap64 ((wrap64 ((wrap64 (x1_1 + 1)) + 1)) + 1)) + 1)) + 1)) + 1), (rd_T108 y302 x5_1).f1.f6⟩ : S77)⟩ : S108) : List (S108))).bind fun y303 => (laws_markEffectS.l0 k1 (y303.set (x5_1 : Int).toNat (⟨(rd_T108 y303 x5_1).f0, (⟨(rd_T108 y303 x5_1).f1.f0, (rd_T108 y303 x5_1).f1.f1, (rd_T108 y303 x5_1).f1.f2, (rd_T108 y303 x5_1).f1.f3, (rd_T108 y303 x5_1).f1.f4, (rd_T108 y303 x5_1).f1.f5, wrap64 ((wrap64 ((wrap64 ((wrap64 ((wrap64 ((wrap64 ((wrap64 (x1_1 + 1)) + 1)) + 1)) + 1)) + 1)) + 1)) + 1)⟩ : S77)⟩ : S108)) (wrap64 ((wrap64 ((wrap64 ((wrap64 ((wrap64 ((wrap64 ((wrap64 ((wrap64 (x1_1 + 1)) + 1)) + 1)) + 1)) + 1)) + 1)) + 1)) + 1)) (wrap64 (x5_1 + 1))))) = some (r1, r2) := by first | (rw [hy301]; with_reducible exact H) | (have H2_ := (Option.bind_some _ _).symm.trans H; rw [hy301]; with_reducible exact H2_) | (have H2_ := (Option.bind_some _ _).symm.trans H; with_reducible exact H2_) | with_reducible exact H | (rw [hy301]; exact H) | exact H
     have Ny301 := Aside0.mk hy301
     clear hy301
     obtain ⟨y302, hy302⟩ : ∃ y_ : List (S108), y_ = (y301.set (x5_1 : Int).toNat (⟨(rd_T108 y301 x5_1).f0, (⟨(rd_T108 y301 x5_1).f1.f0, (rd_T108 y301 x5_1).f1.f1, (rd_T108 y301 x5_1).f1.f2, (rd_T108 y301 x5_1).f1.f3, wrap64 ((wrap64 ((wrap64 ((wrap64 ((wrap64 (x1_1 + 1)) + 1)) + 1)) + 1)) + 1), (rd_T108 y301 x5_1).f1.f5, (rd_T108 y301 x5_1).f1.f6⟩ : S77)⟩ : S108)) := ⟨_, rfl⟩
     replace H : ((some (y302.set (x5_1 : Int).toNat (⟨(rd_T108 y302 x5_1).f0, (⟨(rd_T108 y302 x5_1).f1.f0, (rd_T108 y302 x5_1).f1.f1, (rd_T108 y302 x5_1).f1.f2, (rd_T108 y302 x5_1).f1.f3, (rd_T108 y302 x5_1).f1.f4, wrap64 ((wrap64 ((wrap64 ((wrap64 ((wrap64 ((wrap64 (x1_1 + 1)) + 1)) + 1)) + 1)) + 1)) + 1), (rd_T108 y302 x5_1).f1.f6⟩ : S77)⟩ : S108) : List (S108))).bind fun y303 => (laws_markEffectS.l0 k1 (y303.set (x5_1 : Int).toNat (⟨(rd_T108 y303 x5_1).f0, (⟨(rd_T108 y303 x5_1).f1.f0, (rd_T108 y303 x5_1).f1.f1, (rd_T108 y303 x5_1).f1.f2, (rd_T108 y303 x5_1).f1.f3, (rd_T108 y303 x5_1).f1.f4, (rd_T108 y303 x5_1).f1.f5, wrap64 ((wrap64 ((wrap64 ((wrap64 ((wrap64 ((wrap64 ((wrap64 (x1_1 + 1)) + 1)) + 1)) + 1)) + 1)) + 1)) + 1)⟩ : S77)⟩ : S108)) (wrap64 ((wrap64 ((wrap64 ((wrap64 ((wrap64 ((wrap64 ((wrap64 ((wrap64 (x1_1 + 1)) + 1)) + 1)) + 1)) + 1)) + 1)) + 1)) + 1)) (wrap64 (x5_1 + 1)))) = some (r1, r2) := by first | (rw [hy302]; with_reducible exact H) | (have H2_ := (Option.bind_some _ _).symm.trans H; rw [hy302]; with_reducible exact H2_) | (have H2_ := (Option.bind_some _ _).symm.trans H; with_reducible exact H2_) | with_reducible exact H | (rw [hy302]; exact H) | exact H
     have Ny302 := Aside0.mk hy302
     clear hy302
     obtain ⟨y303, hy303⟩ : ∃ y_ : List (S108), y_ = (y302.set (x5_1 : Int).toNat (⟨(rd_T108 y302 x5_1).f0, (⟨(rd_T108 y302 x5_1).f1.f0, (rd_T108 y302 x5_1).f1.f1, (rd_T108 y302 x5_1).f1.f2, (rd_T108 y302 x5_1).f1.f3, (rd_T108 y302 x5_1).f1.f4, wrap64 ((wrap64 ((wrap64 ((wrap64 ((wrap64 ((wrap64 (x1_1 + 1)) + 1)) + 1)) + 1)) + 1)) + 1), (rd_T108 y302 x5_1).f1.f6⟩ : S77)⟩ : S108)) := ⟨_, rfl⟩
     replace H : (laws_markEffectS.l0 k1 (y303.set (x5_1 : Int).toNat (⟨(rd_T108 y303 x5_1).f0, (⟨(rd_T108 y303 x5_1).f1.f0, (rd_T108 y303 x5_1).f1.f1, (rd_T108 y303 x5_1).f1.f2, (rd_T108 y303 x5_1).f1.f3, (rd_T108 y303 x5_1).f1.f4, (rd_T108 y303 x5_1).f1.f5, wrap64 ((wrap64 ((wrap64 ((wrap64 ((wrap64 ((wrap64 ((wrap64 (x1_1 + 1)) + 1)) + 1)) + 1)) + 1)) + 1)) + 1)⟩ : S77)⟩ : S108)) (wrap64 ((wrap64 ((wrap64 ((wrap64 ((wrap64 ((wrap64 ((wrap64 ((wrap64 (x1_1 + 1)) + 1)) + 1)) + 1)) + 1)) + 1)) + 1)) + 1)) (wrap64 (x5_1 + 1))) = some (r1, r2) := by first | (rw [hy303]; with_reducible exact H) | (have H2_ := (Option.bind_some _ _).symm.trans H; rw [hy303]; with_reducible exact H2_) | (have H2_ := (Option.bind_some _ _).symm.trans H; with_reducible exact H2_) | with_reducible exact H | (rw [hy303]; exact H) | exact H
     have Ny303 := Aside0.mk hy303
     clear hy303
     obtain ⟨y304, hy304⟩ : ∃ y_ : List (S108), y_ = (y303.set (x5_1 : Int).toNat (⟨(rd_T108 y303 x5_1).f0, (⟨(rd_T108 y303 x5_1).f1.f0, (rd_T108 y303 x5_1).f1.f1, (rd_T108 y303 x5_1).f1.f2, (rd_T108 y303 x5_1).f1.f3, (rd_T108 y303 x5_1).f1.f4, (rd_T108 y303 x5_1).f1.f5, wrap64 ((wrap64 ((wrap64 ((wrap64 ((wrap64 ((wrap64 ((wrap64 (x1_1 + 1)) + 1)) + 1)) + 1)) + 1)) + 1)) + 1)⟩ : S77)⟩ : S108)) := ⟨_, rfl⟩
     replace H : (laws_markEffectS.l0 k1 y304 (wrap64 ((wrap64 ((wrap64 ((wrap64 ((wrap64 ((wrap64 ((wrap64 ((wrap64 (x1_1 + 1)) + 1)) + 1)) + 1)) + 1)) + 1)) + 1)) + 1)) (wrap64 (x5_1 + 1))) = some (r1, r2) := by first | (rw [hy304]; with_reducible exact H) | (have H2_ := (Option.bind_some _ _).symm.trans H; rw [hy304]; with_reducible exact H2_) | (have H2_ := (Option.bind_some _ _).symm.trans H; with_reducible exact H2_) | with_reducible exact H | (rw [hy304]; exact H) | exact H
     have Ny304 := Aside0.mk hy304
     clear hy304
     have H' := Aside0.mk H
     clear H
     obtain ⟨Ao15, co15, eo15⟩ := Kd.R_slice zA.out
     subst eo15
     have p5 : 0 ≤ (x5_1 : Int) := of_decide_eq_true (by with_reducible assumption)
     have q5 : (x5_1 : Int) < ((x0_1.length : Int) : Int) := of_decide_eq_true (by with_reducible assumption)
     obtain ⟨go5, co5, eo5, zB, gl5, cl5, HG5⟩ := Kd.R_form zA.out (by omega)
     (first | cases eo5 | (injection eo5 with ea_ en_ ec_; (first | subst ea_ | (injection ea_ with ea_; subst ea_)); subst ec_; clear en_))
     have GB5 := Aside0.mk zB
     have GG5 := Aside0.mk HG5
     clear zB gl5 HG5
     have HMgo5 := Aside0.mk (show (P0_ go5 ∨ w.heap.size ≤ go5) from (zA.out.1 _ rfl))
     obtain ⟨ce5, hcl5, hM5, hcc5, hfr5⟩ := Kd.R_elem zA.out z108 (x5_1 : Int) p5 q5
     obtain rfl := k108_openM hM5
     have hx5_0 : wr.cell? ⟨go5, (x5_1 : Int).toNat * 8, none⟩ = some (.bool ((rd_T108 x0_1 x5_1).f0)) := hcc5 0 _ rfl
     have hx5_1 : wr.cell? ⟨go5, (x5_1 : Int).toNat * 8 + 1, none⟩ = some (.string ((rd_T108 x0_1 x5_1).f1.f0)) := hcc5 1 _ rfl
     have hx5_2 : wr.cell? ⟨go5, (x5_1 : Int).toNat * 8 + 2, none⟩ = some (.string ((rd_T108 x0_1 x5_1).f1.f1)) := hcc5 2 _ rfl
     have hx5_3 : wr.cell? ⟨go5, (x5_1 : Int).toNat * 8 + 3, none⟩ = some (.int .i64 ((rd_T108 x0_1 x5_1).f1.f2)) := hcc5 3 _ rfl
     have hx5_4 : wr.cell? ⟨go5, (x5_1 : Int).toNat * 8 + 4, none⟩ = some (.int .i64 ((rd_T108 x0_1 x5_1).f1.f3)) := hcc5 4 _ rfl
     have hx5_5 : wr.cell? ⟨go5, (x5_1 : Int).toNat * 8 + 5, none⟩ = some (.int .i64 ((rd_T108 x0_1 x5_1).f1.f4)) := hcc5 5 _ rfl
     have hx5_6 : wr.cell? ⟨go5, (x5_1 : Int).toNat * 8 + 6, none⟩ = some (.int .i64 ((rd_T108 x0_1 x5_1).f1.f5)) := hcc5 6 _ rfl
     have hx5_7 : wr.cell? ⟨go5, (x5_1 : Int).toNat * 8 + 7, none⟩ = some (.int .i64 ((rd_T108 x0_1 x5_1).f1.f6)) := hcc5 7 _ rfl
     have hf5_0 : wr.frozen? ⟨go5, (x5_1 : Int).toNat * 8, none⟩ = false := hfr5 0
     have hf5_1 : wr.frozen? ⟨go5, (x5_1 : Int).toNat * 8 + 1, none⟩ = false := hfr5 1
     have hf5_2 : wr.frozen? ⟨go5, (x5_1 : Int).toNat * 8 + 2, none⟩ = false := hfr5 2
     have hf5_3 : wr.frozen? ⟨go5, (x5_1 : Int).toNat * 8 + 3, none⟩ = false := hfr5 3
     have hf5_4 : wr.frozen? ⟨go5, (x5_1 : Int).toNat * 8 + 4, none⟩ = false := hfr5 4
     have hf5_5 : wr.frozen? ⟨go5, (x5_1 : Int).toNat * 8 + 5, none⟩ = false := hfr5 5
     have hf5_6 : wr.frozen? ⟨go5, (x5_1 : Int).toNat * 8 + 6, none⟩ = false := hfr5 6
     have hf5_7 : wr.frozen? ⟨go5, (x5_1 : Int).toNat * 8 + 7, none⟩ = false := hfr5 7
     clear hcl5 hcc5 hfr5 hM5
     replace p5 := eq_true p5
     replace q5 := eq_true q5
     have HX16 := Aside0.mk (show Kd.R k108 108 wr w0.heap.size (fun k_ => (P0_ k_ ∨ w.heap.size ≤ k_)) (.slice (some ⟨go5, 0, none⟩) x0_1.length co15) x0_1 from (RL zA.out))
     obtain ⟨ce16, hcl16, hM16, hcc16, hfr16⟩ := Kd.R_elem HX16.out z108 (x5_1 : Int) (of_decide_eq_true (by with_reducible assumption)) (by have h_ : (x5_1 : Int) < ((x0_1.length : Int) : Int) := of_decide_eq_true (by with_reducible assumption); first | exact h_ | (have e_ := (Kd.R_reads' zA.out).1; omega) | simpa using h_)
     obtain rfl := k108_openM hM16
     have HP16 := Kd.R_seg HX16.out (x5_1 : Int) (of_decide_eq_true (by with_reducible assumption)) (by have h_ : (x5_1 : Int) < ((x0_1.length : Int) : Int) := of_decide_eq_true (by with_reducible assumption); first | exact h_ | (have e_ := (Kd.R_reads' zA.out).1; omega) | simpa using h_) (seg := [.bool ((Int.tmod x1_1 3) == 0)]) (j := 0) hcl16 hcc16 (show 1 ≤ 8 from by decide) (x' := (⟨((Int.tmod x1_1 3) == 0), (⟨(rd_T108 x0_1 x5_1).f1.f0, (rd_T108 x0_1 x5_1).f1.f1, (rd_T108 x0_1 x5_1).f1.f2, (rd_T108 x0_1 x5_1).f1.f3, (rd_T108 x0_1 x5_1).f1.f4, (rd_T108 x0_1 x5_1).f1.f5, (rd_T108 x0_1 x5_1).f1.f6⟩ : S77)⟩ : S108)) (k108_mkM _ _ _ (⟨((Int.tmod x1_1 3) == 0), (⟨(rd_T108 x0_1 x5_1).f1.f0, (rd_T108 x0_1 x5_1).f1.f1, (rd_T108 x0_1 x5_1).f1.f2, (rd_T108 x0_1 x5_1).f1.f3, (rd_T108 x0_1 x5_1).f1.f4, (rd_T108 x0_1 x5_1).f1.f5, (rd_T108 x0_1 x5_1).f1.f6⟩ : S77)⟩ : S108) ) (fun _ hk => hk)
     have hx16_0 := hcc16 0 _ rfl
     (try simp only [show (k108).sz = 8 from rfl, Nat.mul_one, Nat.add_zero] at hx16_0)
     have hf16_0 := hfr16 0
     (try simp only [show (k108).sz = 8 from rfl, Nat.mul_one, Nat.add_zero] at hf16_0)
     clear hcl16 hcc16 hfr16 hM16
     go_wp2_with (first | ((with_reducible refine gate_store (t := 4) (p := 18) rfl ?_); refine store_event (t := 4) (p := 18) (v := ?vo_w17) (w1 := (wr.setCell ⟨go5, (x5_1 : Int).toNat * 8, none⟩ (.bool ((Int.tmod x1_1 3) == 0)))) ?hg ?ho ?hn ?hr ?_; (case ho => rfl); (case hg => rfl); (case hn => rfl); (case hr => first | (go_simp; done) | (go_simp; rfl)); intro w17 hw; have hg : wr.grownBy w17 (some go5) := (by rw [hw]; exact HP16.2); have hp_ : Kd.R k108 108 w17 w0.heap.size (fun k_ => (P0_ k_ ∨ w.heap.size ≤ k_)) (.slice (some ⟨go5, 0, none⟩) x0_1.length co15) y295 := (by rw [hw, Ny295.out]; exact HP16.1); clear HP16; have n0_ := Aside0.mk (hp_); have n1_ := Aside0.mk ((by rw [hw]; exact zd (HB.out) GB5.out : Below w0.heap.size w0 w17)); have n2_ := Aside0.mk (Kept.of_grown (S := (fun k_ => P0_ k_)) hg (by exact kt HK.out) (fun k_ e_ => (zA.out.1 k_ e_))); clear zA; clear HB; clear HK; have zA := n0_; have HB := n1_; have HK := n2_; clear n0_ n1_ n2_; clear hg hw hp_) | ((with_reducible refine zr (f := 110) rfl ?_); refine zz (some 24) rfl rfl Tryd.func110 (by kernel_rfl) rfl #[.int .i64 (wrap64 (x1_1 + 1))] rfl (by (try simp only [List.map_toArray, List.map_cons, List.map_nil]); first | done | rfl) ?_; (with_reducible refine (laws_markText.calls k1 (wrap64 (x1_1 + 1)) t296 _ A6.out).mono ?_); rintro e w18 ⟨rfl, hb⟩; refine ⟨_, rfl, ?_⟩; have n0_ := Aside0.mk (Kd.R_below (RL zA.out) hb); have n1_ := Aside0.mk (Kept.below (S := (fun k_ => P0_ k_)) (by exact kt HK.out) hb); have n2_ := Aside0.mk (zn (by exact bl HB.out) hb); clear zA; clear HK; clear HB; have zA := n0_; have HK := n1_; have HB := n2_; clear n0_ n1_ n2_; (try clear hb); (try clear hb2); (try clear hk); (try clear hi); have p7 : 0 ≤ (x5_1 : Int) := of_decide_eq_true (by with_reducible assumption); have q7 : (x5_1 : Int) < ((x0_1.length : Int) : Int) := of_decide_eq_true (by with_reducible assumption); obtain ⟨ce7, hcl7, hM7, hcc7, hfr7⟩ := Kd.R_elem zA.out z108 (x5_1 : Int) p7 q7; obtain rfl := k108_openM hM7; have hx7_0 : w18.cell? ⟨go5, (x5_1 : Int).toNat * 8, none⟩ = some (.bool ((rd_T108 y295 x5_1).f0)) := hcc7 0 _ rfl; have hx7_1 : w18.cell? ⟨go5, (x5_1 : Int).toNat * 8 + 1, none⟩ = some (.string ((rd_T108 y295 x5_1).f1.f0)) := hcc7 1 _ rfl; have hx7_2 : w18.cell? ⟨go5, (x5_1 : Int).toNat * 8 + 2, none⟩ = some (.string ((rd_T108 y295 x5_1).f1.f1)) := hcc7 2 _ rfl; have hx7_3 : w18.cell? ⟨go5, (x5_1 : Int).toNat * 8 + 3, none⟩ = some (.int .i64 ((rd_T108 y295 x5_1).f1.f2)) := hcc7 3 _ rfl; have hx7_4 : w18.cell? ⟨go5, (x5_1 : Int).toNat * 8 + 4, none⟩ = some (.int .i64 ((rd_T108 y295 x5_1).f1.f3)) := hcc7 4 _ rfl; have hx7_5 : w18.cell? ⟨go5, (x5_1 : Int).toNat * 8 + 5, none⟩ = some (.int .i64 ((rd_T108 y295 x5_1).f1.f4)) := hcc7 5 _ rfl; have hx7_6 : w18.cell? ⟨go5, (x5_1 : Int).toNat * 8 + 6, none⟩ = some (.int .i64 ((rd_T108 y295 x5_1).f1.f5)) := hcc7 6 _ rfl; have hx7_7 : w18.cell? ⟨go5, (x5_1 : Int).toNat * 8 + 7, none⟩ = some (.int .i64 ((rd_T108 y295 x5_1).f1.f6)) := hcc7 7 _ rfl; have hf7_0 : w18.frozen? ⟨go5, (x5_1 : Int).toNat * 8, none⟩ = false := hfr7 0; have hf7_1 : w18.frozen? ⟨go5, (x5_1 : Int).toNat * 8 + 1, none⟩ = false := hfr7 1; have hf7_2 : w18.frozen? ⟨go5, (x5_1 : Int).toNat * 8 + 2, none⟩ = false := hfr7 2; have hf7_3 : w18.frozen? ⟨go5, (x5_1 : Int).toNat * 8 + 3, none⟩ = false := hfr7 3; have hf7_4 : w18.frozen? ⟨go5, (x5_1 : Int).toNat * 8 + 4, none⟩ = false := hfr7 4; have hf7_5 : w18.frozen? ⟨go5, (x5_1 : Int).toNat * 8 + 5, none⟩ = false := hfr7 5; have hf7_6 : w18.frozen? ⟨go5, (x5_1 : Int).toNat * 8 + 6, none⟩ = false := hfr7 6; have hf7_7 : w18.frozen? ⟨go5, (x5_1 : Int).toNat * 8 + 7, none⟩ = false := hfr7 7; clear hcl7 hcc7 hfr7 hM7; replace p7 := eq_true p7; replace q7 := eq_true q7; have HX19 := Aside0.mk (show Kd.R k108 108 w18 w0.heap.size (fun k_ => (P0_ k_ ∨ w.heap.size ≤ k_)) (.slice (some ⟨go5, 0, none⟩) x0_1.length co15) y295 from (RL zA.out)); obtain ⟨ce19, hcl19, hM19, hcc19, hfr19⟩ := Kd.R_elem HX19.out z108 (x5_1 : Int) (of_decide_eq_true (by with_reducible assumption)) (by have h_ : (x5_1 : Int) < ((x0_1.length : Int) : Int) := of_decide_eq_true (by with_reducible assumption); first | exact h_ | (have e_ := (Kd.R_reads' zA.out).1; omega) | simpa using h_); obtain rfl := k108_openM hM19; have HP19 := Kd.R_seg HX19.out (x5_1 : Int) (of_decide_eq_true (by with_reducible assumption)) (by have h_ : (x5_1 : Int) < ((x0_1.length : Int) : Int) := of_decide_eq_true (by with_reducible assumption); first | exact h_ | (have e_ := (Kd.R_reads' zA.out).1; omega) | simpa using h_) (seg := [.string t296]) (j := 1) hcl19 hcc19 (show 2 ≤ 8 from by decide) (x' := (⟨(rd_T108 y295 x5_1).f0, (⟨t296, (rd_T108 y295 x5_1).f1.f1, (rd_T108 y295 x5_1).f1.f2, (rd_T108 y295 x5_1).f1.f3, (rd_T108 y295 x5_1).f1.f4, (rd_T108 y295 x5_1).f1.f5, (rd_T108 y295 x5_1).f1.f6⟩ : S77)⟩ : S108)) (k108_mkM _ _ _ (⟨(rd_T108 y295 x5_1).f0, (⟨t296, (rd_T108 y295 x5_1).f1.f1, (rd_T108 y295 x5_1).f1.f2, (rd_T108 y295 x5_1).f1.f3, (rd_T108 y295 x5_1).f1.f4, (rd_T108 y295 x5_1).f1.f5, (rd_T108 y295 x5_1).f1.f6⟩ : S77)⟩ : S108) ) (fun _ hk => hk); have hx19_1 := hcc19 1 _ rfl; (try simp only [show (k108).sz = 8 from rfl, Nat.mul_one, Nat.add_zero] at hx19_1); have hf19_1 := hfr19 1; (try simp only [show (k108).sz = 8 from rfl, Nat.mul_one, Nat.add_zero] at hf19_1); clear hcl19 hcc19 hfr19 hM19) | ((with_reducible refine gate_store (t := 9) (p := 27) rfl ?_); refine store_event (t := 9) (p := 27) (v := ?vo_w20) (w1 := (w18.setCell ⟨go5, (x5_1 : Int).toNat * 8 + 1, none⟩ (.string t296))) ?hg ?ho ?hn ?hr ?_; (case ho => rfl); (case hg => rfl); (case hn => rfl); (case hr => first | (go_simp; done) | (go_simp; rfl)); intro w20 hw; have hg : w18.grownBy w20 (some go5) := (by rw [hw]; exact HP19.2); have hp_ : Kd.R k108 108 w20 w0.heap.size (fun k_ => (P0_ k_ ∨ w.heap.size ≤ k_)) (.slice (some ⟨go5, 0, none⟩) x0_1.length co15) y297 := (by rw [hw, Ny297.out]; exact HP19.1); clear HP19; have n0_ := Aside0.mk (hp_); have n1_ := Aside0.mk ((by rw [hw]; exact zd (HB.out) GB5.out : Below w0.heap.size w0 w20)); have n2_ := Aside0.mk (Kept.of_grown (S := (fun k_ => P0_ k_)) hg (by exact kt HK.out) (fun k_ e_ => (zA.out.1 k_ e_))); clear zA; clear HB; clear HK; have zA := n0_; have HB := n1_; have HK := n2_; clear n0_ n1_ n2_; clear hg hw hp_) | ((with_reducible refine zr (f := 110) rfl ?_); refine zz (some 33) rfl rfl Tryd.func110 (by kernel_rfl) rfl #[.int .i64 (wrap64 ((wrap64 (x1_1 + 1)) + 1))] rfl (by (try simp only [List.map_toArray, List.map_cons, List.map_nil]); first | done | rfl) ?_; (with_reducible refine (laws_markText.calls k1 (wrap64 ((wrap64 (x1_1 + 1)) + 1)) t298 _ A8.out).mono ?_); rintro e w21 ⟨rfl, hb⟩; refine ⟨_, rfl, ?_⟩; have n0_ := Aside0.mk (Kd.R_below (RL zA.out) hb); have n1_ := Aside0.mk (Kept.below (S := (fun k_ => P0_ k_)) (by exact kt HK.out) hb); have n2_ := Aside0.mk (zn (by exact bl HB.out) hb); clear zA; clear HK; clear HB; have zA := n0_; have HK := n1_; have HB := n2_; clear n0_ n1_ n2_; (try clear hb); (try clear hb2); (try clear hk); (try clear hi); have p9 : 0 ≤ (x5_1 : Int) := of_decide_eq_true (by with_reducible assumption); have q9 : (x5_1 : Int) < ((x0_1.length : Int) : Int) := of_decide_eq_true (by with_reducible assumption); obtain ⟨ce9, hcl9, hM9, hcc9, hfr9⟩ := Kd.R_elem zA.out z108 (x5_1 : Int) p9 q9; obtain rfl := k108_openM hM9; have hx9_0 : w21.cell? ⟨go5, (x5_1 : Int).toNat * 8, none⟩ = some (.bool ((rd_T108 y297 x5_1).f0)) := hcc9 0 _ rfl; have hx9_1 : w21.cell? ⟨go5, (x5_1 : Int).toNat * 8 + 1, none⟩ = some (.string ((rd_T108 y297 x5_1).f1.f0)) := hcc9 1 _ rfl; have hx9_2 : w21.cell? ⟨go5, (x5_1 : Int).toNat * 8 + 2, none⟩ = some (.string ((rd_T108 y297 x5_1).f1.f1)) := hcc9 2 _ rfl; have hx9_3 : w21.cell? ⟨go5, (x5_1 : Int).toNat * 8 + 3, none⟩ = some (.int .i64 ((rd_T108 y297 x5_1).f1.f2)) := hcc9 3 _ rfl; have hx9_4 : w21.cell? ⟨go5, (x5_1 : Int).toNat * 8 + 4, none⟩ = some (.int .i64 ((rd_T108 y297 x5_1).f1.f3)) := hcc9 4 _ rfl; have hx9_5 : w21.cell? ⟨go5, (x5_1 : Int).toNat * 8 + 5, none⟩ = some (.int .i64 ((rd_T108 y297 x5_1).f1.f4)) := hcc9 5 _ rfl; have hx9_6 : w21.cell? ⟨go5, (x5_1 : Int).toNat * 8 + 6, none⟩ = some (.int .i64 ((rd_T108 y297 x5_1).f1.f5)) := hcc9 6 _ rfl; have hx9_7 : w21.cell? ⟨go5, (x5_1 : Int).toNat * 8 + 7, none⟩ = some (.int .i64 ((rd_T108 y297 x5_1).f1.f6)) := hcc9 7 _ rfl; have hf9_0 : w21.frozen? ⟨go5, (x5_1 : Int).toNat * 8, none⟩ = false := hfr9 0; have hf9_1 : w21.frozen? ⟨go5, (x5_1 : Int).toNat * 8 + 1, none⟩ = false := hfr9 1; have hf9_2 : w21.frozen? ⟨go5, (x5_1 : Int).toNat * 8 + 2, none⟩ = false := hfr9 2; have hf9_3 : w21.frozen? ⟨go5, (x5_1 : Int).toNat * 8 + 3, none⟩ = false := hfr9 3; have hf9_4 : w21.frozen? ⟨go5, (x5_1 : Int).toNat * 8 + 4, none⟩ = false := hfr9 4; have hf9_5 : w21.frozen? ⟨go5, (x5_1 : Int).toNat * 8 + 5, none⟩ = false := hfr9 5; have hf9_6 : w21.frozen? ⟨go5, (x5_1 : Int).toNat * 8 + 6, none⟩ = false := hfr9 6; have hf9_7 : w21.frozen? ⟨go5, (x5_1 : Int).toNat * 8 + 7, none⟩ = false := hfr9 7; clear hcl9 hcc9 hfr9 hM9; replace p9 := eq_true p9; replace q9 := eq_true q9; have HX22 := Aside0.mk (show Kd.R k108 108 w21 w0.heap.size (fun k_ => (P0_ k_ ∨ w.heap.size ≤ k_)) (.slice (some ⟨go5, 0, none⟩) x0_1.length co15) y297 from (RL zA.out)); obtain ⟨ce22, hcl22, hM22, hcc22, hfr22⟩ := Kd.R_elem HX22.out z108 (x5_1 : Int) (of_decide_eq_true (by with_reducible assumption)) (by have h_ : (x5_1 : Int) < ((x0_1.length : Int) : Int) := of_decide_eq_true (by with_reducible assumption); first | exact h_ | (have e_ := (Kd.R_reads' zA.out).1; omega) | simpa using h_); obtain rfl := k108_openM hM22; have HP22 := Kd.R_seg HX22.out (x5_1 : Int) (of_decide_eq_true (by with_reducible assumption)) (by have h_ : (x5_1 : Int) < ((x0_1.length : Int) : Int) := of_decide_eq_true (by with_reducible assumption); first | exact h_ | (have e_ := (Kd.R_reads' zA.out).1; omega) | simpa using h_) (seg := [.string t298]) (j := 2) hcl22 hcc22 (show 3 ≤ 8 from by decide) (x' := (⟨(rd_T108 y297 x5_1).f0, (⟨(rd_T108 y297 x5_1).f1.f0, t298, (rd_T108 y297 x5_1).f1.f2, (rd_T108 y297 x5_1).f1.f3, (rd_T108 y297 x5_1).f1.f4, (rd_T108 y297 x5_1).f1.f5, (rd_T108 y297 x5_1).f1.f6⟩ : S77)⟩ : S108)) (k108_mkM _ _ _ (⟨(rd_T108 y297 x5_1).f0, (⟨(rd_T108 y297 x5_1).f1.f0, t298, (rd_T108 y297 x5_1).f1.f2, (rd_T108 y297 x5_1).f1.f3, (rd_T108 y297 x5_1).f1.f4, (rd_T108 y297 x5_1).f1.f5, (rd_T108 y297 x5_1).f1.f6⟩ : S77)⟩ : S108) ) (fun _ hk => hk); have hx22_2 := hcc22 2 _ rfl; (try simp only [show (k108).sz = 8 from rfl, Nat.mul_one, Nat.add_zero] at hx22_2); have hf22_2 := hfr22 2; (try simp only [show (k108).sz = 8 from rfl, Nat.mul_one, Nat.add_zero] at hf22_2); clear hcl22 hcc22 hfr22 hM22) | ((with_reducible refine gate_store (t := 9) (p := 36) rfl ?_); refine store_event (t := 9) (p := 36) (v := ?vo_w23) (w1 := (w21.setCell ⟨go5, (x5_1 : Int).toNat * 8 + 2, none⟩ (.string t298))) ?hg ?ho ?hn ?hr ?_; (case ho => rfl); (case hg => rfl); (case hn => rfl); (case hr => first | (go_simp; done) | (go_simp; rfl)); intro w23 hw; have hg : w21.grownBy w23 (some go5) := (by rw [hw]; exact HP22.2); have hp_ : Kd.R k108 108 w23 w0.heap.size (fun k_ => (P0_ k_ ∨ w.heap.size ≤ k_)) (.slice (some ⟨go5, 0, none⟩) x0_1.length co15) y299 := (by rw [hw, Ny299.out]; exact HP22.1); clear HP22; have n0_ := Aside0.mk (hp_); have n1_ := Aside0.mk ((by rw [hw]; exact zd (HB.out) GB5.out : Below w0.heap.size w0 w23)); have n2_ := Aside0.mk (Kept.of_grown (S := (fun k_ => P0_ k_)) hg (by exact kt HK.out) (fun k_ e_ => (zA.out.1 k_ e_))); clear zA; clear HB; clear HK; have zA := n0_; have HB := n1_; have HK := n2_; clear n0_ n1_ n2_; clear hg hw hp_; have p10 : 0 ≤ (x5_1 : Int) := of_decide_eq_true (by with_reducible assumption); have q10 : (x5_1 : Int) < ((x0_1.length : Int) : Int) := of_decide_eq_true (by with_reducible assumption); obtain ⟨ce10, hcl10, hM10, hcc10, hfr10⟩ := Kd.R_elem zA.out z108 (x5_1 : Int) p10 q10; obtain rfl := k108_openM hM10; have hx10_0 : w23.cell? ⟨go5, (x5_1 : Int).toNat * 8, none⟩ = some (.bool ((rd_T108 y299 x5_1).f0)) := hcc10 0 _ rfl; have hx10_1 : w23.cell? ⟨go5, (x5_1 : Int).toNat * 8 + 1, none⟩ = some (.string ((rd_T108 y299 x5_1).f1.f0)) := hcc10 1 _ rfl; have hx10_2 : w23.cell? ⟨go5, (x5_1 : Int).toNat * 8 + 2, none⟩ = some (.string ((rd_T108 y299 x5_1).f1.f1)) := hcc10 2 _ rfl; have hx10_3 : w23.cell? ⟨go5, (x5_1 : Int).toNat * 8 + 3, none⟩ = some (.int .i64 ((rd_T108 y299 x5_1).f1.f2)) := hcc10 3 _ rfl; have hx10_4 : w23.cell? ⟨go5, (x5_1 : Int).toNat * 8 + 4, none⟩ = some (.int .i64 ((rd_T108 y299 x5_1).f1.f3)) := hcc10 4 _ rfl; have hx10_5 : w23.cell? ⟨go5, (x5_1 : Int).toNat * 8 + 5, none⟩ = some (.int .i64 ((rd_T108 y299 x5_1).f1.f4)) := hcc10 5 _ rfl; have hx10_6 : w23.cell? ⟨go5, (x5_1 : Int).toNat * 8 + 6, none⟩ = some (.int .i64 ((rd_T108 y299 x5_1).f1.f5)) := hcc10 6 _ rfl; have hx10_7 : w23.cell? ⟨go5, (x5_1 : Int).toNat * 8 + 7, none⟩ = some (.int .i64 ((rd_T108 y299 x5_1).f1.f6)) := hcc10 7 _ rfl; have hf10_0 : w23.frozen? ⟨go5, (x5_1 : Int).toNat * 8, none⟩ = false := hfr10 0; have hf10_1 : w23.frozen? ⟨go5, (x5_1 : Int).toNat * 8 + 1, none⟩ = false := hfr10 1; have hf10_2 : w23.frozen? ⟨go5, (x5_1 : Int).toNat * 8 + 2, none⟩ = false := hfr10 2; have hf10_3 : w23.frozen? ⟨go5, (x5_1 : Int).toNat * 8 + 3, none⟩ = false := hfr10 3; have hf10_4 : w23.frozen? ⟨go5, (x5_1 : Int).toNat * 8 + 4, none⟩ = false := hfr10 4; have hf10_5 : w23.frozen? ⟨go5, (x5_1 : Int).toNat * 8 + 5, none⟩ = false := hfr10 5; have hf10_6 : w23.frozen? ⟨go5, (x5_1 : Int).toNat * 8 + 6, none⟩ = false := hfr10 6; have hf10_7 : w23.frozen? ⟨go5, (x5_1 : Int).toNat * 8 + 7, none⟩ = false := hfr10 7; clear hcl10 hcc10 hfr10 hM10; replace p10 := eq_true p10; replace q10 := eq_true q10; have HX24 := Aside0.mk (show Kd.R k108 108 w23 w0.heap.size (fun k_ => (P0_ k_ ∨ w.heap.size ≤ k_)) (.slice (some ⟨go5, 0, none⟩) x0_1.length co15) y299 from (RL zA.out)); obtain ⟨ce24, hcl24, hM24, hcc24, hfr24⟩ := Kd.R_elem HX24.out z108 (x5_1 : Int) (of_decide_eq_true (by with_reducible assumption)) (by have h_ : (x5_1 : Int) < ((x0_1.length : Int) : Int) := of_decide_eq_true (by with_reducible assumption); first | exact h_ | (have e_ := (Kd.R_reads' zA.out).1; omega) | simpa using h_); obtain rfl := k108_openM hM24; have HP24 := Kd.R_seg HX24.out (x5_1 : Int) (of_decide_eq_true (by with_reducible assumption)) (by have h_ : (x5_1 : Int) < ((x0_1.length : Int) : Int) := of_decide_eq_true (by with_reducible assumption); first | exact h_ | (have e_ := (Kd.R_reads' zA.out).1; omega) | simpa using h_) (seg := [.int .i64 (wrap64 ((wrap64 ((wrap64 (x1_1 + 1)) + 1)) + 1))]) (j := 3) hcl24 hcc24 (show 4 ≤ 8 from by decide) (x' := (⟨(rd_T108 y299 x5_1).f0, (⟨(rd_T108 y299 x5_1).f1.f0, (rd_T108 y299 x5_1).f1.f1, wrap64 ((wrap64 ((wrap64 (x1_1 + 1)) + 1)) + 1), (rd_T108 y299 x5_1).f1.f3, (rd_T108 y299 x5_1).f1.f4, (rd_T108 y299 x5_1).f1.f5, (rd_T108 y299 x5_1).f1.f6⟩ : S77)⟩ : S108)) (k108_mkM _ _ _ (⟨(rd_T108 y299 x5_1).f0, (⟨(rd_T108 y299 x5_1).f1.f0, (rd_T108 y299 x5_1).f1.f1, wrap64 ((wrap64 ((wrap64 (x1_1 + 1)) + 1)) + 1), (rd_T108 y299 x5_1).f1.f3, (rd_T108 y299 x5_1).f1.f4, (rd_T108 y299 x5_1).f1.f5, (rd_T108 y299 x5_1).f1.f6⟩ : S77)⟩ : S108) ) (fun _ hk => hk); have hx24_3 := hcc24 3 _ rfl; (try simp only [show (k108).sz = 8 from rfl, Nat.mul_one, Nat.add_zero] at hx24_3); have hf24_3 := hfr24 3; (try simp only [show (k108).sz = 8 from rfl, Nat.mul_one, Nat.add_zero] at hf24_3); clear hcl24 hcc24 hfr24 hM24) | ((with_reducible refine gate_store (t := 2) (p := 44) rfl ?_); refine store_event (t := 2) (p := 44) (v := ?vo_w25) (w1 := (w23.setCell ⟨go5, (x5_1 : Int).toNat * 8 + 3, none⟩ (.int .i64 (wrap64 ((wrap64 ((wrap64 (x1_1 + 1)) + 1)) + 1))))) ?hg ?ho ?hn ?hr ?_; (case ho => rfl); (case hg => rfl); (case hn => rfl); (case hr => first | (go_simp; done) | (go_simp; rfl)); intro w25 hw; have hg : w23.grownBy w25 (some go5) := (by rw [hw]; exact HP24.2); have hp_ : Kd.R k108 108 w25 w0.heap.size (fun k_ => (P0_ k_ ∨ w.heap.size ≤ k_)) (.slice (some ⟨go5, 0, none⟩) x0_1.length co15) y300 := (by rw [hw, Ny300.out]; exact HP24.1); clear HP24; have n0_ := Aside0.mk (hp_); have n1_ := Aside0.mk ((by rw [hw]; exact zd (HB.out) GB5.out : Below w0.heap.size w0 w25)); have n2_ := Aside0.mk (Kept.of_grown (S := (fun k_ => P0_ k_)) hg (by exact kt HK.out) (fun k_ e_ => (zA.out.1 k_ e_))); clear zA; clear HB; clear HK; have zA := n0_; have HB := n1_; have HK := n2_; clear n0_ n1_ n2_; clear hg hw hp_; have p11 : 0 ≤ (x5_1 : Int) := of_decide_eq_true (by with_reducible assumption); have q11 : (x5_1 : Int) < ((x0_1.length : Int) : Int) := of_decide_eq_true (by with_reducible assumption); obtain ⟨ce11, hcl11, hM11, hcc11, hfr11⟩ := Kd.R_elem zA.out z108 (x5_1 : Int) p11 q11; obtain rfl := k108_openM hM11; have hx11_0 : w25.cell? ⟨go5, (x5_1 : Int).toNat * 8, none⟩ = some (.bool ((rd_T108 y300 x5_1).f0)) := hcc11 0 _ rfl; have hx11_1 : w25.cell? ⟨go5, (x5_1 : Int).toNat * 8 + 1, none⟩ = some (.string ((rd_T108 y300 x5_1).f1.f0)) := hcc11 1 _ rfl; have hx11_2 : w25.cell? ⟨go5, (x5_1 : Int).toNat * 8 + 2, none⟩ = some (.string ((rd_T108 y300 x5_1).f1.f1)) := hcc11 2 _ rfl; have hx11_3 : w25.cell? ⟨go5, (x5_1 : Int).toNat * 8 + 3, none⟩ = some (.int .i64 ((rd_T108 y300 x5_1).f1.f2)) := hcc11 3 _ rfl; have hx11_4 : w25.cell? ⟨go5, (x5_1 : Int).toNat * 8 + 4, none⟩ = some (.int .i64 ((rd_T108 y300 x5_1).f1.f3)) := hcc11 4 _ rfl; have hx11_5 : w25.cell? ⟨go5, (x5_1 : Int).toNat * 8 + 5, none⟩ = some (.int .i64 ((rd_T108 y300 x5_1).f1.f4)) := hcc11 5 _ rfl; have hx11_6 : w25.cell? ⟨go5, (x5_1 : Int).toNat * 8 + 6, none⟩ = some (.int .i64 ((rd_T108 y300 x5_1).f1.f5)) := hcc11 6 _ rfl; have hx11_7 : w25.cell? ⟨go5, (x5_1 : Int).toNat * 8 + 7, none⟩ = some (.int .i64 ((rd_T108 y300 x5_1).f1.f6)) := hcc11 7 _ rfl; have hf11_0 : w25.frozen? ⟨go5, (x5_1 : Int).toNat * 8, none⟩ = false := hfr11 0; have hf11_1 : w25.frozen? ⟨go5, (x5_1 : Int).toNat * 8 + 1, none⟩ = false := hfr11 1; have hf11_2 : w25.frozen? ⟨go5, (x5_1 : Int).toNat * 8 + 2, none⟩ = false := hfr11 2; have hf11_3 : w25.frozen? ⟨go5, (x5_1 : Int).toNat * 8 + 3, none⟩ = false := hfr11 3; have hf11_4 : w25.frozen? ⟨go5, (x5_1 : Int).toNat * 8 + 4, none⟩ = false := hfr11 4; have hf11_5 : w25.frozen? ⟨go5, (x5_1 : Int).toNat * 8 + 5, none⟩ = false := hfr11 5; have hf11_6 : w25.frozen? ⟨go5, (x5_1 : Int).toNat * 8 + 6, none⟩ = false := hfr11 6; have hf11_7 : w25.frozen? ⟨go5, (x5_1 : Int).toNat * 8 + 7, none⟩ = false := hfr11 7; clear hcl11 hcc11 hfr11 hM11; replace p11 := eq_true p11; replace q11 := eq_true q11; have HX26 := Aside0.mk (show Kd.R k108 108 w25 w0.heap.size (fun k_ => (P0_ k_ ∨ w.heap.size ≤ k_)) (.slice (some ⟨go5, 0, none⟩) x0_1.length co15) y300 from (RL zA.out)); obtain ⟨ce26, hcl26, hM26, hcc26, hfr26⟩ := Kd.R_elem HX26.out z108 (x5_1 : Int) (of_decide_eq_true (by with_reducible assumption)) (by have h_ : (x5_1 : Int) < ((x0_1.length : Int) : Int) := of_decide_eq_true (by with_reducible assumption); first | exact h_ | (have e_ := (Kd.R_reads' zA.out).1; omega) | simpa using h_); obtain rfl := k108_openM hM26; have HP26 := Kd.R_seg HX26.out (x5_1 : Int) (of_decide_eq_true (by with_reducible assumption)) (by have h_ : (x5_1 : Int) < ((x0_1.length : Int) : Int) := of_decide_eq_true (by with_reducible assumption); first | exact h_ | (have e_ := (Kd.R_reads' zA.out).1; omega) | simpa using h_) (seg := [.int .i64 (wrap64 ((wrap64 ((wrap64 ((wrap64 (x1_1 + 1)) + 1)) + 1)) + 1))]) (j := 4) hcl26 hcc26 (show 5 ≤ 8 from by decide) (x' := (⟨(rd_T108 y300 x5_1).f0, (⟨(rd_T108 y300 x5_1).f1.f0, (rd_T108 y300 x5_1).f1.f1, (rd_T108 y300 x5_1).f1.f2, wrap64 ((wrap64 ((wrap64 ((wrap64 (x1_1 + 1)) + 1)) + 1)) + 1), (rd_T108 y300 x5_1).f1.f4, (rd_T108 y300 x5_1).f1.f5, (rd_T108 y300 x5_1).f1.f6⟩ : S77)⟩ : S108)) (k108_mkM _ _ _ (⟨(rd_T108 y300 x5_1).f0, (⟨(rd_T108 y300 x5_1).f1.f0, (rd_T108 y300 x5_1).f1.f1, (rd_T108 y300 x5_1).f1.f2, wrap64 ((wrap64 ((wrap64 ((wrap64 (x1_1 + 1)) + 1)) + 1)) + 1), (rd_T108 y300 x5_1).f1.f4, (rd_T108 y300 x5_1).f1.f5, (rd_T108 y300 x5_1).f1.f6⟩ : S77)⟩ : S108) ) (fun _ hk => hk); have hx26_4 := hcc26 4 _ rfl; (try simp only [show (k108).sz = 8 from rfl, Nat.mul_one, Nat.add_zero] at hx26_4); have hf26_4 := hfr26 4; (try simp only [show (k108).sz = 8 from rfl, Nat.mul_one, Nat.add_zero] at hf26_4); clear hcl26 hcc26 hfr26 hM26) | ((with_reducible refine gate_store (t := 2) (p := 52) rfl ?_); refine store_event (t := 2) (p := 52) (v := ?vo_w27) (w1 := (w25.setCell ⟨go5, (x5_1 : Int).toNat * 8 + 4, none⟩ (.int .i64 (wrap64 ((wrap64 ((wrap64 ((wrap64 (x1_1 + 1)) + 1)) + 1)) + 1))))) ?hg ?ho ?hn ?hr ?_; (case ho => rfl); (case hg => rfl); (case hn => rfl); (case hr => first | (go_simp; done) | (go_simp; rfl)); intro w27 hw; have hg : w25.grownBy w27 (some go5) := (by rw [hw]; exact HP26.2); have hp_ : Kd.R k108 108 w27 w0.heap.size (fun k_ => (P0_ k_ ∨ w.heap.size ≤ k_)) (.slice (some ⟨go5, 0, none⟩) x0_1.length co15) y301 := (by rw [hw, Ny301.out]; exact HP26.1); clear HP26; have n0_ := Aside0.mk (hp_); have n1_ := Aside0.mk ((by rw [hw]; exact zd (HB.out) GB5.out : Below w0.heap.size w0 w27)); have n2_ := Aside0.mk (Kept.of_grown (S := (fun k_ => P0_ k_)) hg (by exact kt HK.out) (fun k_ e_ => (zA.out.1 k_ e_))); clear zA; clear HB; clear HK; have zA := n0_; have HB := n1_; have HK := n2_; clear n0_ n1_ n2_; clear hg hw hp_; have p12 : 0 ≤ (x5_1 : Int) := of_decide_eq_true (by with_reducible assumption); have q12 : (x5_1 : Int) < ((x0_1.length : Int) : Int) := of_decide_eq_true (by with_reducible assumption); obtain ⟨ce12, hcl12, hM12, hcc12, hfr12⟩ := Kd.R_elem zA.out z108 (x5_1 : Int) p12 q12; obtain rfl := k108_openM hM12; have hx12_0 : w27.cell? ⟨go5, (x5_1 : Int).toNat * 8, none⟩ = some (.bool ((rd_T108 y301 x5_1).f0)) := hcc12 0 _ rfl; have hx12_1 : w27.cell? ⟨go5, (x5_1 : Int).toNat * 8 + 1, none⟩ = some (.string ((rd_T108 y301 x5_1).f1.f0)) := hcc12 1 _ rfl; have hx12_2 : w27.cell? ⟨go5, (x5_1 : Int).toNat * 8 + 2, none⟩ = some (.string ((rd_T108 y301 x5_1).f1.f1)) := hcc12 2 _ rfl; have hx12_3 : w27.cell? ⟨go5, (x5_1 : Int).toNat * 8 + 3, none⟩ = some (.int .i64 ((rd_T108 y301 x5_1).f1.f2)) := hcc12 3 _ rfl; have hx12_4 : w27.cell? ⟨go5, (x5_1 : Int).toNat * 8 + 4, none⟩ = some (.int .i64 ((rd_T108 y301 x5_1).f1.f3)) := hcc12 4 _ rfl; have hx12_5 : w27.cell? ⟨go5, (x5_1 : Int).toNat * 8 + 5, none⟩ = some (.int .i64 ((rd_T108 y301 x5_1).f1.f4)) := hcc12 5 _ rfl; have hx12_6 : w27.cell? ⟨go5, (x5_1 : Int).toNat * 8 + 6, none⟩ = some (.int .i64 ((rd_T108 y301 x5_1).f1.f5)) := hcc12 6 _ rfl; have hx12_7 : w27.cell? ⟨go5, (x5_1 : Int).toNat * 8 + 7, none⟩ = some (.int .i64 ((rd_T108 y301 x5_1).f1.f6)) := hcc12 7 _ rfl; have hf12_0 : w27.frozen? ⟨go5, (x5_1 : Int).toNat * 8, none⟩ = false := hfr12 0; have hf12_1 : w27.frozen? ⟨go5, (x5_1 : Int).toNat * 8 + 1, none⟩ = false := hfr12 1; have hf12_2 : w27.frozen? ⟨go5, (x5_1 : Int).toNat * 8 + 2, none⟩ = false := hfr12 2; have hf12_3 : w27.frozen? ⟨go5, (x5_1 : Int).toNat * 8 + 3, none⟩ = false := hfr12 3; have hf12_4 : w27.frozen? ⟨go5, (x5_1 : Int).toNat * 8 + 4, none⟩ = false := hfr12 4; have hf12_5 : w27.frozen? ⟨go5, (x5_1 : Int).toNat * 8 + 5, none⟩ = false := hfr12 5; have hf12_6 : w27.frozen? ⟨go5, (x5_1 : Int).toNat * 8 + 6, none⟩ = false := hfr12 6; have hf12_7 : w27.frozen? ⟨go5, (x5_1 : Int).toNat * 8 + 7, none⟩ = false := hfr12 7; clear hcl12 hcc12 hfr12 hM12; replace p12 := eq_true p12; replace q12 := eq_true q12; have HX28 := Aside0.mk (show Kd.R k108 108 w27 w0.heap.size (fun k_ => (P0_ k_ ∨ w.heap.size ≤ k_)) (.slice (some ⟨go5, 0, none⟩) x0_1.length co15) y301 from (RL zA.out)); obtain ⟨ce28, hcl28, hM28, hcc28, hfr28⟩ := Kd.R_elem HX28.out z108 (x5_1 : Int) (of_decide_eq_true (by with_reducible assumption)) (by have h_ : (x5_1 : Int) < ((x0_1.length : Int) : Int) := of_decide_eq_true (by with_reducible assumption); first | exact h_ | (have e_ := (Kd.R_reads' zA.out).1; omega) | simpa using h_); obtain rfl := k108_openM hM28; have HP28 := Kd.R_seg HX28.out (x5_1 : Int) (of_decide_eq_true (by with_reducible assumption)) (by have h_ : (x5_1 : Int) < ((x0_1.length : Int) : Int) := of_decide_eq_true (by with_reducible assumption); first | exact h_ | (have e_ := (Kd.R_reads' zA.out).1; omega) | simpa using h_) (seg := [.int .i64 (wrap64 ((wrap64 ((wrap64 ((wrap64 ((wrap64 (x1_1 + 1)) + 1)) + 1)) + 1)) + 1))]) (j := 5) hcl28 hcc28 (show 6 ≤ 8 from by decide) (x' := (⟨(rd_T108 y301 x5_1).f0, (⟨(rd_T108 y301 x5_1).f1.f0, (rd_T108 y301 x5_1).f1.f1, (rd_T108 y301 x5_1).f1.f2, (rd_T108 y301 x5_1).f1.f3, wrap64 ((wrap64 ((wrap64 ((wrap64 ((wrap64 (x1_1 + 1)) + 1)) + 1)) + 1)) + 1), (rd_T108 y301 x5_1).f1.f5, (rd_T108 y301 x5_1).f1.f6⟩ : S77)⟩ : S108)) (k108_mkM _ _ _ (⟨(rd_T108 y301 x5_1).f0, (⟨(rd_T108 y301 x5_1).f1.f0, (rd_T108 y301 x5_1).f1.f1, (rd_T108 y301 x5_1).f1.f2, (rd_T108 y301 x5_1).f1.f3, wrap64 ((wrap64 ((wrap64 ((wrap64 ((wrap64 (x1_1 + 1)) + 1)) + 1)) + 1)) + 1), (rd_T108 y301 x5_1).f1.f5, (rd_T108 y301 x5_1).f1.f6⟩ : S77)⟩ : S108) ) (fun _ hk => hk); have hx28_5 := hcc28 5 _ rfl; (try simp only [show (k108).sz = 8 from rfl, Nat.mul_one, Nat.add_zero] at hx28_5); have hf28_5 := hfr28 5; (try simp only [show (k108).sz = 8 from rfl, Nat.mul_one, Nat.add_zero] at hf28_5); clear hcl28 hcc28 hfr28 hM28) | ((with_reducible refine gate_store (t := 2) (p := 60) rfl ?_); refine store_event (t := 2) (p := 60) (v := ?vo_w29) (w1 := (w27.setCell ⟨go5, (x5_1 : Int).toNat * 8 + 5, none⟩ (.int .i64 (wrap64 ((wrap64 ((wrap64 ((wrap64 ((wrap64 (x1_1 + 1)) + 1)) + 1)) + 1)) + 1))))) ?hg ?ho ?hn ?hr ?_; (case ho => rfl); (case hg => rfl); (case hn => rfl); (case hr => first | (go_simp; done) | (go_simp; rfl)); intro w29 hw; have hg : w27.grownBy w29 (some go5) := (by rw [hw]; exact HP28.2); have hp_ : Kd.R k108 108 w29 w0.heap.size (fun k_ => (P0_ k_ ∨ w.heap.size ≤ k_)) (.slice (some ⟨go5, 0, none⟩) x0_1.length co15) y302 := (by rw [hw, Ny302.out]; exact HP28.1); clear HP28; have n0_ := Aside0.mk (hp_); have n1_ := Aside0.mk ((by rw [hw]; exact zd (HB.out) GB5.out : Below w0.heap.size w0 w29)); have n2_ := Aside0.mk (Kept.of_grown (S := (fun k_ => P0_ k_)) hg (by exact kt HK.out) (fun k_ e_ => (zA.out.1 k_ e_))); clear zA; clear HB; clear HK; have zA := n0_; have HB := n1_; have HK := n2_; clear n0_ n1_ n2_; clear hg hw hp_; have p13 : 0 ≤ (x5_1 : Int) := of_decide_eq_true (by with_reducible assumption); have q13 : (x5_1 : Int) < ((x0_1.length : Int) : Int) := of_decide_eq_true (by with_reducible assumption); obtain ⟨ce13, hcl13, hM13, hcc13, hfr13⟩ := Kd.R_elem zA.out z108 (x5_1 : Int) p13 q13; obtain rfl := k108_openM hM13; have hx13_0 : w29.cell? ⟨go5, (x5_1 : Int).toNat * 8, none⟩ = some (.bool ((rd_T108 y302 x5_1).f0)) := hcc13 0 _ rfl; have hx13_1 : w29.cell? ⟨go5, (x5_1 : Int).toNat * 8 + 1, none⟩ = some (.string ((rd_T108 y302 x5_1).f1.f0)) := hcc13 1 _ rfl; have hx13_2 : w29.cell? ⟨go5, (x5_1 : Int).toNat * 8 + 2, none⟩ = some (.string ((rd_T108 y302 x5_1).f1.f1)) := hcc13 2 _ rfl; have hx13_3 : w29.cell? ⟨go5, (x5_1 : Int).toNat * 8 + 3, none⟩ = some (.int .i64 ((rd_T108 y302 x5_1).f1.f2)) := hcc13 3 _ rfl; have hx13_4 : w29.cell? ⟨go5, (x5_1 : Int).toNat * 8 + 4, none⟩ = some (.int .i64 ((rd_T108 y302 x5_1).f1.f3)) := hcc13 4 _ rfl; have hx13_5 : w29.cell? ⟨go5, (x5_1 : Int).toNat * 8 + 5, none⟩ = some (.int .i64 ((rd_T108 y302 x5_1).f1.f4)) := hcc13 5 _ rfl; have hx13_6 : w29.cell? ⟨go5, (x5_1 : Int).toNat * 8 + 6, none⟩ = some (.int .i64 ((rd_T108 y302 x5_1).f1.f5)) := hcc13 6 _ rfl; have hx13_7 : w29.cell? ⟨go5, (x5_1 : Int).toNat * 8 + 7, none⟩ = some (.int .i64 ((rd_T108 y302 x5_1).f1.f6)) := hcc13 7 _ rfl; have hf13_0 : w29.frozen? ⟨go5, (x5_1 : Int).toNat * 8, none⟩ = false := hfr13 0; have hf13_1 : w29.frozen? ⟨go5, (x5_1 : Int).toNat * 8 + 1, none⟩ = false := hfr13 1; have hf13_2 : w29.frozen? ⟨go5, (x5_1 : Int).toNat * 8 + 2, none⟩ = false := hfr13 2; have hf13_3 : w29.frozen? ⟨go5, (x5_1 : Int).toNat * 8 + 3, none⟩ = false := hfr13 3; have hf13_4 : w29.frozen? ⟨go5, (x5_1 : Int).toNat * 8 + 4, none⟩ = false := hfr13 4; have hf13_5 : w29.frozen? ⟨go5, (x5_1 : Int).toNat * 8 + 5, none⟩ = false := hfr13 5; have hf13_6 : w29.frozen? ⟨go5, (x5_1 : Int).toNat * 8 + 6, none⟩ = false := hfr13 6; have hf13_7 : w29.frozen? ⟨go5, (x5_1 : Int).toNat * 8 + 7, none⟩ = false := hfr13 7; clear hcl13 hcc13 hfr13 hM13; replace p13 := eq_true p13; replace q13 := eq_true q13; have HX30 := Aside0.mk (show Kd.R k108 108 w29 w0.heap.size (fun k_ => (P0_ k_ ∨ w.heap.size ≤ k_)) (.slice (some ⟨go5, 0, none⟩) x0_1.length co15) y302 from (RL zA.out)); obtain ⟨ce30, hcl30, hM30, hcc30, hfr30⟩ := Kd.R_elem HX30.out z108 (x5_1 : Int) (of_decide_eq_true (by with_reducible assumption)) (by have h_ : (x5_1 : Int) < ((x0_1.length : Int) : Int) := of_decide_eq_true (by with_reducible assumption); first | exact h_ | (have e_ := (Kd.R_reads' zA.out).1; omega) | simpa using h_); obtain rfl := k108_openM hM30; have HP30 := Kd.R_seg HX30.out (x5_1 : Int) (of_decide_eq_true (by with_reducible assumption)) (by have h_ : (x5_1 : Int) < ((x0_1.length : Int) : Int) := of_decide_eq_true (by with_reducible assumption); first | exact h_ | (have e_ := (Kd.R_reads' zA.out).1; omega) | simpa using h_) (seg := [.int .i64 (wrap64 ((wrap64 ((wrap64 ((wrap64 ((wrap64 ((wrap64 (x1_1 + 1)) + 1)) + 1)) + 1)) + 1)) + 1))]) (j := 6) hcl30 hcc30 (show 7 ≤ 8 from by decide) (x' := (⟨(rd_T108 y302 x5_1).f0, (⟨(rd_T108 y302 x5_1).f1.f0, (rd_T108 y302 x5_1).f1.f1, (rd_T108 y302 x5_1).f1.f2, (rd_T108 y302 x5_1).f1.f3, (rd_T108 y302 x5_1).f1.f4, wrap64 ((wrap64 ((wrap64 ((wrap64 ((wrap64 ((wrap64 (x1_1 + 1)) + 1)) + 1)) + 1)) + 1)) + 1), (rd_T108 y302 x5_1).f1.f6⟩ : S77)⟩ : S108)) (k108_mkM _ _ _ (⟨(rd_T108 y302 x5_1).f0, (⟨(rd_T108 y302 x5_1).f1.f0, (rd_T108 y302 x5_1).f1.f1, (rd_T108 y302 x5_1).f1.f2, (rd_T108 y302 x5_1).f1.f3, (rd_T108 y302 x5_1).f1.f4, wrap64 ((wrap64 ((wrap64 ((wrap64 ((wrap64 ((wrap64 (x1_1 + 1)) + 1)) + 1)) + 1)) + 1)) + 1), (rd_T108 y302 x5_1).f1.f6⟩ : S77)⟩ : S108) ) (fun _ hk => hk); have hx30_6 := hcc30 6 _ rfl; (try simp only [show (k108).sz = 8 from rfl, Nat.mul_one, Nat.add_zero] at hx30_6); have hf30_6 := hfr30 6; (try simp only [show (k108).sz = 8 from rfl, Nat.mul_one, Nat.add_zero] at hf30_6); clear hcl30 hcc30 hfr30 hM30) | ((with_reducible refine gate_store (t := 2) (p := 68) rfl ?_); refine store_event (t := 2) (p := 68) (v := ?vo_w31) (w1 := (w29.setCell ⟨go5, (x5_1 : Int).toNat * 8 + 6, none⟩ (.int .i64 (wrap64 ((wrap64 ((wrap64 ((wrap64 ((wrap64 ((wrap64 (x1_1 + 1)) + 1)) + 1)) + 1)) + 1)) + 1))))) ?hg ?ho ?hn ?hr ?_; (case ho => rfl); (case hg => rfl); (case hn => rfl); (case hr => first | (go_simp; done) | (go_simp; rfl)); intro w31 hw; have hg : w29.grownBy w31 (some go5) := (by rw [hw]; exact HP30.2); have hp_ : Kd.R k108 108 w31 w0.heap.size (fun k_ => (P0_ k_ ∨ w.heap.size ≤ k_)) (.slice (some ⟨go5, 0, none⟩) x0_1.length co15) y303 := (by rw [hw, Ny303.out]; exact HP30.1); clear HP30; have n0_ := Aside0.mk (hp_); have n1_ := Aside0.mk ((by rw [hw]; exact zd (HB.out) GB5.out : Below w0.heap.size w0 w31)); have n2_ := Aside0.mk (Kept.of_grown (S := (fun k_ => P0_ k_)) hg (by exact kt HK.out) (fun k_ e_ => (zA.out.1 k_ e_))); clear zA; clear HB; clear HK; have zA := n0_; have HB := n1_; have HK := n2_; clear n0_ n1_ n2_; clear hg hw hp_; have p14 : 0 ≤ (x5_1 : Int) := of_decide_eq_true (by with_reducible assumption); have q14 : (x5_1 : Int) < ((x0_1.length : Int) : Int) := of_decide_eq_true (by with_reducible assumption); obtain ⟨ce14, hcl14, hM14, hcc14, hfr14⟩ := Kd.R_elem zA.out z108 (x5_1 : Int) p14 q14; obtain rfl := k108_openM hM14; have hx14_0 : w31.cell? ⟨go5, (x5_1 : Int).toNat * 8, none⟩ = some (.bool ((rd_T108 y303 x5_1).f0)) := hcc14 0 _ rfl; have hx14_1 : w31.cell? ⟨go5, (x5_1 : Int).toNat * 8 + 1, none⟩ = some (.string ((rd_T108 y303 x5_1).f1.f0)) := hcc14 1 _ rfl; have hx14_2 : w31.cell? ⟨go5, (x5_1 : Int).toNat * 8 + 2, none⟩ = some (.string ((rd_T108 y303 x5_1).f1.f1)) := hcc14 2 _ rfl; have hx14_3 : w31.cell? ⟨go5, (x5_1 : Int).toNat * 8 + 3, none⟩ = some (.int .i64 ((rd_T108 y303 x5_1).f1.f2)) := hcc14 3 _ rfl; have hx14_4 : w31.cell? ⟨go5, (x5_1 : Int).toNat * 8 + 4, none⟩ = some (.int .i64 ((rd_T108 y303 x5_1).f1.f3)) := hcc14 4 _ rfl; have hx14_5 : w31.cell? ⟨go5, (x5_1 : Int).toNat * 8 + 5, none⟩ = some (.int .i64 ((rd_T108 y303 x5_1).f1.f4)) := hcc14 5 _ rfl; have hx14_6 : w31.cell? ⟨go5, (x5_1 : Int).toNat * 8 + 6, none⟩ = some (.int .i64 ((rd_T108 y303 x5_1).f1.f5)) := hcc14 6 _ rfl; have hx14_7 : w31.cell? ⟨go5, (x5_1 : Int).toNat * 8 + 7, none⟩ = some (.int .i64 ((rd_T108 y303 x5_1).f1.f6)) := hcc14 7 _ rfl; have hf14_0 : w31.frozen? ⟨go5, (x5_1 : Int).toNat * 8, none⟩ = false := hfr14 0; have hf14_1 : w31.frozen? ⟨go5, (x5_1 : Int).toNat * 8 + 1, none⟩ = false := hfr14 1; have hf14_2 : w31.frozen? ⟨go5, (x5_1 : Int).toNat * 8 + 2, none⟩ = false := hfr14 2; have hf14_3 : w31.frozen? ⟨go5, (x5_1 : Int).toNat * 8 + 3, none⟩ = false := hfr14 3; have hf14_4 : w31.frozen? ⟨go5, (x5_1 : Int).toNat * 8 + 4, none⟩ = false := hfr14 4; have hf14_5 : w31.frozen? ⟨go5, (x5_1 : Int).toNat * 8 + 5, none⟩ = false := hfr14 5; have hf14_6 : w31.frozen? ⟨go5, (x5_1 : Int).toNat * 8 + 6, none⟩ = false := hfr14 6; have hf14_7 : w31.frozen? ⟨go5, (x5_1 : Int).toNat * 8 + 7, none⟩ = false := hfr14 7; clear hcl14 hcc14 hfr14 hM14; replace p14 := eq_true p14; replace q14 := eq_true q14; have HX32 := Aside0.mk (show Kd.R k108 108 w31 w0.heap.size (fun k_ => (P0_ k_ ∨ w.heap.size ≤ k_)) (.slice (some ⟨go5, 0, none⟩) x0_1.length co15) y303 from (RL zA.out)); obtain ⟨ce32, hcl32, hM32, hcc32, hfr32⟩ := Kd.R_elem HX32.out z108 (x5_1 : Int) (of_decide_eq_true (by with_reducible assumption)) (by have h_ : (x5_1 : Int) < ((x0_1.length : Int) : Int) := of_decide_eq_true (by with_reducible assumption); first | exact h_ | (have e_ := (Kd.R_reads' zA.out).1; omega) | simpa using h_); obtain rfl := k108_openM hM32; have HP32 := Kd.R_seg HX32.out (x5_1 : Int) (of_decide_eq_true (by with_reducible assumption)) (by have h_ : (x5_1 : Int) < ((x0_1.length : Int) : Int) := of_decide_eq_true (by with_reducible assumption); first | exact h_ | (have e_ := (Kd.R_reads' zA.out).1; omega) | simpa using h_) (seg := [.int .i64 (wrap64 ((wrap64 ((wrap64 ((wrap64 ((wrap64 ((wrap64 ((wrap64 (x1_1 + 1)) + 1)) + 1)) + 1)) + 1)) + 1)) + 1))]) (j := 7) hcl32 hcc32 (show 8 ≤ 8 from by decide) (x' := (⟨(rd_T108 y303 x5_1).f0, (⟨(rd_T108 y303 x5_1).f1.f0, (rd_T108 y303 x5_1).f1.f1, (rd_T108 y303 x5_1).f1.f2, (rd_T108 y303 x5_1).f1.f3, (rd_T108 y303 x5_1).f1.f4, (rd_T108 y303 x5_1).f1.f5, wrap64 ((wrap64 ((wrap64 ((wrap64 ((wrap64 ((wrap64 ((wrap64 (x1_1 + 1)) + 1)) + 1)) + 1)) + 1)) + 1)) + 1)⟩ : S77)⟩ : S108)) (k108_mkM _ _ _ (⟨(rd_T108 y303 x5_1).f0, (⟨(rd_T108 y303 x5_1).f1.f0, (rd_T108 y303 x5_1).f1.f1, (rd_T108 y303 x5_1).f1.f2, (rd_T108 y303 x5_1).f1.f3, (rd_T108 y303 x5_1).f1.f4, (rd_T108 y303 x5_1).f1.f5, wrap64 ((wrap64 ((wrap64 ((wrap64 ((wrap64 ((wrap64 ((wrap64 (x1_1 + 1)) + 1)) + 1)) + 1)) + 1)) + 1)) + 1)⟩ : S77)⟩ : S108) ) (fun _ hk => hk); have hx32_7 := hcc32 7 _ rfl; (try simp only [show (k108).sz = 8 from rfl, Nat.mul_one, Nat.add_zero] at hx32_7); have hf32_7 := hfr32 7; (try simp only [show (k108).sz = 8 from rfl, Nat.mul_one, Nat.add_zero] at hf32_7); clear hcl32 hcc32 hfr32 hM32) | ((with_reducible refine gate_store (t := 2) (p := 76) rfl ?_); refine store_event (t := 2) (p := 76) (v := ?vo_w33) (w1 := (w31.setCell ⟨go5, (x5_1 : Int).toNat * 8 + 7, none⟩ (.int .i64 (wrap64 ((wrap64 ((wrap64 ((wrap64 ((wrap64 ((wrap64 ((wrap64 (x1_1 + 1)) + 1)) + 1)) + 1)) + 1)) + 1)) + 1))))) ?hg ?ho ?hn ?hr ?_; (case ho => rfl); (case hg => rfl); (case hn => rfl); (case hr => first | (go_simp; done) | (go_simp; rfl)); intro w33 hw; have hg : w31.grownBy w33 (some go5) := (by rw [hw]; exact HP32.2); have hp_ : Kd.R k108 108 w33 w0.heap.size (fun k_ => (P0_ k_ ∨ w.heap.size ≤ k_)) (.slice (some ⟨go5, 0, none⟩) x0_1.length co15) y304 := (by rw [hw, Ny304.out]; exact HP32.1); clear HP32; have n0_ := Aside0.mk (hp_); have n1_ := Aside0.mk ((by rw [hw]; exact zd (HB.out) GB5.out : Below w0.heap.size w0 w33)); have n2_ := Aside0.mk (Kept.of_grown (S := (fun k_ => P0_ k_)) hg (by exact kt HK.out) (fun k_ e_ => (zA.out.1 k_ e_))); clear zA; clear HB; clear HK; have zA := n0_; have HB := n1_; have HK := n2_; clear n0_ n1_ n2_; clear hg hw hp_))
     go_roundg k1
     case measure => have := HK1.out; omega
     case rel => exact ⟨(y304), (wrap64 ((wrap64 ((wrap64 ((wrap64 ((wrap64 ((wrap64 ((wrap64 ((wrap64 (x1_1 + 1)) + 1)) + 1)) + 1)) + 1)) + 1)) + 1)) + 1)), (wrap64 (x5_1 + 1)), (by first | rfl | (simp [*]; done)), (by first | rfl | (simp [*]; done)), H', ⟨by have := HK1.out; omega⟩, ⟨RL zA.out⟩, ⟨by repeat (first | (with_reducible first | exact HK.out | apply Kept.alloc | apply Kept.drewN | apply Kept.drew) | exact HK.out)⟩, ⟨by repeat (first | (with_reducible first | exact HB.out | apply zh | apply zf | apply zg) | exact HB.out)⟩⟩
    ·rw [if_neg c4] at H
     exact absurd H (by simp)
   ·rw [if_neg c3] at H
    have c3b0 : decide (x5_1 < (x0_1.length : Int)) = false := decide_eq_false c3
    clear c3
    simp only [Option.some.injEq, Prod.mk.injEq] at H
    obtain ⟨rfl, rfl⟩ := H
    obtain ⟨Ao34, co34, eo34⟩ := Kd.R_slice zA.out
    subst eo34
    go_wp2
    go_ret
    exact ⟨by first | rfl | (simp [*] <;> rfl), RL zA.out, by repeat (first | (with_reducible first | exact HB.out | apply zh | apply zf | apply zg) | exact HB.out), by repeat (first | (with_reducible first | exact HK.out | apply Kept.alloc | apply Kept.drewN | apply Kept.drew) | exact HK.out)⟩

def laws_markTxn.f (k : Nat) (a0_0 : Int) (l0_1 : List (S108)) (a1 : Int) : Option (Int × (List (S108))) := (laws_markEffectS.f k l0_1 a1).bind fun bt306 => (some (bt306.1, bt306.2))
theorem laws_markTxn.mono : ∀ a0 a1 a2 k, LeO (laws_markTxn.f k a0 a1 a2) (laws_markTxn.f (k + 1) a0 a1 a2) := by
 intro a0 a1 a2 k
 unfold laws_markTxn.f
 repeat' first
   | (with_reducible exact laws_markEffectS.mono _ _ _)
   | (with_reducible exact LeO.refl _)
   | (with_reducible exact LeO.none _)
   | (with_reducible refine LeO.ite ?_ ?_)
   | (with_reducible refine LeO.bind ?_ (fun _ => ?_))
   | exact laws_markEffectS.mono _ _ _
   | exact LeO.none _
   | refine LeO.ite ?_ ?_
   | refine LeO.bind ?_ (fun _ => ?_)
set_option maxHeartbeats 8000000 in
set_option maxRecDepth 100000 in
theorem laws_markTxn.calls (k : Nat) (a0_0 : Int) (P0_1_ : Nat → Prop) (u9000_ : Value) (l0_1 : List (S108)) (a1 : Int) (r1 : Int) (r2 : List (S108)) (w0 w : World) (hB : Below w0.heap.size w0 w) (zD : Kd.R k108 108 w w0.heap.size P0_1_ u9000_ l0_1) (h : laws_markTxn.f k a0_0 l0_1 a1 = some (r1, r2)) :
  Calls Tryd.prog 25 #[.agg #[.int .i64 a0_0, u9000_], .int .i64 a1] w fun e w' => e = .returned (.int .i64 r1) ∧ Kd.R k108 108 w' w0.heap.size (fun k_ => (P0_1_ k_ ∨ w.heap.size ≤ k_)) u9000_ r2 ∧ Below w0.heap.size w0 w' ∧ Kept w w' (fun k_ => P0_1_ k_) := by
 have hu55 := Tryd.underlying55
 have zA := Aside0.mk (show Kd.R k108 108 w w0.heap.size (fun k_ => (P0_1_ k_ ∨ w.heap.size ≤ k_)) u9000_ l0_1 from Kd.R_mono zD (fun k_ hk => (.inl hk)))
 have HK := Aside0.mk (Kept.refl w (fun k_ => P0_1_ k_))
 have HW0 := Aside0.mk hB.size
 have HB := Aside0.mk hB
 clear hB
 have H : ((laws_markEffectS.f k l0_1 a1).bind fun bt306 => (some (bt306.1, bt306.2))) = some (r1, r2) := h
 clear h
 replace H := Option.bind_eq_some_iff.mp H
 obtain ⟨⟨t306, t307⟩, A30, H⟩ := H
 try dsimp only at H
 have A3 := Aside0.mk A30
 clear A30
 simp only [Option.some.injEq, Prod.mk.injEq] at H
 obtain ⟨rfl, rfl⟩ := H
 obtain ⟨Ao4, co4, eo4⟩ := Kd.R_slice zA.out
 subst eo4
 go_enter Tryd.func25, Tryd.ntmps25
 go_wp2_with (first | ((with_reducible refine zu (N := 2) rfl ?_); refine zy ?hg (N := 2) ?hd (cs := #[.int .i64 a0_0, .slice Ao4 l0_1.length co4]) (t := 55) ?hr ?_; (case hd => rfl); (case hg => rfl); (case hr => first | (go_simp; done) | (go_simp; rfl)); intro zC hg w5 hbox hb; have n0_ := Aside0.mk (Kd.R_below (RL zA.out) hb); have n1_ := Aside0.mk (Kept.below (S := (fun k_ => P0_1_ k_)) (by exact kt HK.out) hb); have n2_ := Aside0.mk (zn (by exact bl HB.out) hb); have n3_ := Aside0.mk (hbox); have n4_ := Aside0.mk ((by rw [hg]; exact (by first | exact HK.out.1 | exact (show Kept w _ (fun k_ => P0_1_ k_) from by exact kt HK.out).1) : w.heap.size ≤ zC)); have n5_ := Aside0.mk ((by rw [hg]; exact (zm (by exact bl HB.out)) : w0.heap.size ≤ zC)); clear zA; clear HK; clear HB; have zA := n0_; have HK := n1_; have HB := n2_; have zB := n3_; have GW305 := n4_; have zE := n5_; clear n0_ n1_ n2_ n3_ n4_ n5_; clear hb hbox hg; have zF : w5.cell? ⟨zC, 0, none⟩ = some (.int .i64 a0_0) := (zc zB.out 0).trans rfl; have zG : w5.cell? ⟨zC, 1, none⟩ = some (.slice Ao4 l0_1.length co4) := (zc zB.out 1).trans rfl; have zH := ze zB.out 0; have zI := ze zB.out 1) | ((with_reducible refine zr (f := 70) rfl ?_); refine zz (some 8) rfl rfl Tryd.func70 (by kernel_rfl) rfl #[.slice Ao4 l0_1.length co4, .int .i64 a1] rfl (by (try simp only [List.map_toArray, List.map_cons, List.map_nil]); first | done | rfl) ?_; (with_reducible refine (laws_markEffectS.calls k (fun k_ => some k_ = (.slice Ao4 l0_1.length co4 : Value).ownBlock) (.slice Ao4 l0_1.length co4) l0_1 a1 t306 t307 w0 _ ?side1 ?side2 A3.out).mono ?_); (case side1 => exact bl HB.out); (case side2 => exact Kd.R_tight rfl zA.out); rintro e w7 ⟨rfl, hy0, hb, hkp⟩; refine ⟨_, rfl, ?_⟩; have n0_ := Aside0.mk (Kd.R_reok rfl hy0 (fun k_ e_ => zA.out.1 k_ e_)); have n1_ := Aside0.mk (blk_kept (BL zB.out) hkp (fun hs_ => (fun e_ => (Kd.R_ne zA.out zB.out (by decide)) e_) hs_)); have n2_ := Aside0.mk (Kept.then_ (S := (fun k_ => P0_1_ k_)) (by exact kt HK.out) hkp (fun k_ hs_ => (fun e_ => (zA.out.1 k_ e_.symm)) hs_)); have n3_ := Aside0.mk (hb); clear zA; clear zB; clear HK; clear HB; have zA := n0_; have zB := n1_; have HK := n2_; have HB := n3_; clear n0_ n1_ n2_ n3_; (try clear hb); (try clear hkp); (try clear hy0)))
 go_ret
 exact ⟨by first | rfl | (simp [*] <;> rfl), RL zA.out, by repeat (first | (with_reducible first | exact HB.out | apply zh | apply zf | apply zg | refine zd ?_ zE.out) | exact HB.out), by repeat (first | (with_reducible first | exact HK.out | apply Kept.alloc | apply Kept.drewN | apply Kept.drew | refine Kept.setCell ?_ (.inr GW305.out) _) | exact HK.out)⟩

def laws_heldNodeS.l0 : Nat → List (S77) → Int → Int → Option (Int)
 | 0, _, _, _ => none
 | k + 1, x0, x1, x5 => if x5 < (x0.length : Int) then (if 0 ≤ x5 then ((laws_markText.f k x1).bind fun t309 => (if ((rd_T77 x0 x5).f0).toList = t309.toList then ((laws_markText.f k (wrap64 (x1 + 1))).bind fun t311 => (if ((rd_T77 x0 x5).f1).toList = t311.toList then (if ((rd_T77 x0 x5).f2) = (wrap64 ((wrap64 (x1 + 1)) + 1)) then (if ((rd_T77 x0 x5).f3) = (wrap64 ((wrap64 ((wrap64 (x1 + 1)) + 1)) + 1)) then (if ((rd_T77 x0 x5).f4) = (wrap64 ((wrap64 ((wrap64 ((wrap64 (x1 + 1)) + 1)) + 1)) + 1)) then (if ((rd_T77 x0 x5).f5) = (wrap64 ((wrap64 ((wrap64 ((wrap64 ((wrap64 (x1 + 1)) + 1)) + 1)) + 1)) + 1)) then (if ((rd_T77 x0 x5).f6) = (wrap64 ((wrap64 ((wrap64 ((wrap64 ((wrap64 ((wrap64 (x1 + 1)) + 1)) + 1)) + 1)) + 1)) + 1)) then (laws_heldNodeS.l0 k x0 (wrap64 ((wrap64 ((wrap64 ((wrap64 ((wrap64 ((wrap64 ((wrap64 (x1 + 1)) + 1)) + 1)) + 1)) + 1)) + 1)) + 1)) (wrap64 (x5 + 1))) else none) else none) else none) else none) else none) else none)) else none)) else (none)) else (some x1)
def laws_heldNodeS.f (k : Nat) (l0 : List (S77)) (a1 : Int) : Option (Int) := laws_heldNodeS.l0 k l0 a1 0
theorem laws_heldNodeS.mono_l : ∀ k, (∀ y0 y1 y2, LeO (laws_heldNodeS.l0 k y0 y1 y2) (laws_heldNodeS.l0 (k + 1) y0 y1 y2))
 | 0 => fun _ _ _ r h => by simp [laws_heldNodeS.l0] at h
 | k + 1 => by
  have ih0 := laws_heldNodeS.mono_l k
  ·intro y0 y1 y2
   unfold laws_heldNodeS.l0
   repeat' first
   | (with_reducible exact ih0 _ _ _)
   | (with_reducible exact laws_markText.mono _ _)
   | (with_reducible exact LeO.refl _)
   | (with_reducible exact LeO.none _)
   | (with_reducible refine LeO.ite ?_ ?_)
   | (with_reducible refine LeO.bind ?_ (fun _ => ?_))
   | exact ih0 _ _ _
   | exact laws_markText.mono _ _
   | exact LeO.none _
   | refine LeO.ite ?_ ?_
   | refine LeO.bind ?_ (fun _ => ?_)
theorem laws_heldNodeS.mono : ∀ a0 a1 k, LeO (laws_heldNodeS.f k a0 a1) (laws_heldNodeS.f (k + 1) a0 a1) := by
 intro a0 a1 k
 have ih0 := laws_heldNodeS.mono_l k
 unfold laws_heldNodeS.f
 repeat' first
   | (with_reducible exact ih0 _ _ _)
   | (with_reducible exact laws_markText.mono _ _)
   | (with_reducible exact LeO.refl _)
   | (with_reducible exact LeO.none _)
   | (with_reducible refine LeO.ite ?_ ?_)
   | (with_reducible refine LeO.bind ?_ (fun _ => ?_))
   | exact ih0 _ _ _
   | exact laws_markText.mono _ _
   | exact LeO.none _
   | refine LeO.ite ?_ ?_
   | refine LeO.bind ?_ (fun _ => ?_)
def laws_heldNodeS.T4 : Bool × List (List Nat × List Nat) := (true, [([], []), ([], []), ([0, 1], [0, 1]), ([2], [2]), ([3], [3]), ([], []), ([5], [5]), ([4, 6], [4, 6])])
def laws_heldNodeS.B4 : List Nat := [0, 0, 3, 7, 15, 0, 32, 127]
theorem laws_heldNodeS.tab4 : rtab .any (opsOf Tryd.f71 4) = laws_heldNodeS.T4 := by kernel_rfl
theorem laws_heldNodeS.bits4 : waitsOk laws_heldNodeS.T4.2 laws_heldNodeS.B4 = true := by kernel_rfl
def laws_heldNodeS.T7 : Bool × List (List Nat × List Nat) := (true, [([], []), ([], []), ([0, 1], [0, 1]), ([2], [2]), ([3], [3]), ([], []), ([5], [5]), ([4, 6], [4, 6])])
def laws_heldNodeS.B7 : List Nat := [0, 0, 3, 7, 15, 0, 32, 127]
theorem laws_heldNodeS.tab7 : rtab .any (opsOf Tryd.f71 7) = laws_heldNodeS.T7 := by kernel_rfl
theorem laws_heldNodeS.bits7 : waitsOk laws_heldNodeS.T7.2 laws_heldNodeS.B7 = true := by kernel_rfl
set_option maxHeartbeats 8000000 in
set_option maxRecDepth 100000 in
theorem laws_heldNodeS.calls (k : Nat) (A0 : Option Addr) (c0 : Nat) (l0 : List (S77)) (a1 : Int) (r : Int) (w : World) (hr0 : Kd.C k77 w A0 l0.length l0) (hc0 : l0.length ≤ c0) (h : laws_heldNodeS.f k l0 a1 = some r) :
  Calls Tryd.prog 71 #[.slice A0 l0.length c0, .int .i64 a1] w fun e w' => e = .returned (.int .i64 r) ∧ Below w.heap.size w w' := by
 have HR0 := Aside0.mk hr0
 have HC0 := Aside0.mk hc0
 clear hr0 hc0
 have HB := Aside0.mk (Below.refl w.heap.size w)
 have H : (laws_heldNodeS.l0 k l0 a1 0) = some r := h
 clear h
 have H' := Aside0.mk H
 clear H
 go_enter Tryd.func71, Tryd.ntmps71
 go_wp2
 go_loopg [1, 5] k (fun kq v1 v5 w' => ∃ (x1_1 : Int) (x5_1 : Int), v1 = .int .i64 x1_1 ∧ v5 = .int .i64 x5_1 ∧ Aside0 (laws_heldNodeS.l0 kq l0 x1_1 x5_1 = some r) ∧ Aside0 (kq ≤ k) ∧ Aside0 (Below w.heap.size w w'))
 case atStart => exact ⟨(a1), (0), (by first | rfl | (simp [*]; done)), (by first | rfl | (simp [*]; done)), H', ⟨Nat.le_refl _⟩, ⟨by repeat (first | (with_reducible first | exact HB.out | apply zh | apply zf | apply zg) | exact HB.out)⟩⟩
 case round =>
  clear H'
  try clear p2
  obtain ⟨x1_1, x5_1, rfl, rfl, HA, HK1, HB⟩ := hrel
  cases gk with
  | zero => exact absurd HA.out (by simp [laws_heldNodeS.l0])
  | succ k1 =>
   have H := HA.out
   clear HA
   simp only [laws_heldNodeS.l0] at H
   by_cases c3 : x5_1 < (l0.length : Int)
   ·rw [if_pos c3] at H
    have c3b0 : decide (x5_1 < (l0.length : Int)) = true := decide_eq_true c3
    clear c3
    by_cases c4 : 0 ≤ x5_1
    ·rw [if_pos c4] at H
     have c4b0 : decide (0 ≤ x5_1) = true := decide_eq_true c4
     clear c4
     replace H := Option.bind_eq_some_iff.mp H
     obtain ⟨t309, A50, H⟩ := H
     try dsimp only at H
     have A5 := Aside0.mk A50
     clear A50
     by_cases c6 : ((rd_T77 l0 x5_1).f0).toList = t309.toList
     ·rw [if_pos c6] at H
      have c6b0 : (((rd_T77 l0 x5_1).f0).toList == t309.toList) = true := beq_iff_eq.mpr c6
      have c6b1 : (((rd_T77 l0 x5_1).f0).toList != t309.toList) = false := bne_eq_false_iff_eq.mpr c6
      clear c6
      replace H := Option.bind_eq_some_iff.mp H
      obtain ⟨t311, A70, H⟩ := H
      try dsimp only at H
      have A7 := Aside0.mk A70
      clear A70
      by_cases c8 : ((rd_T77 l0 x5_1).f1).toList = t311.toList
      ·rw [if_pos c8] at H
       have c8b0 : (((rd_T77 l0 x5_1).f1).toList == t311.toList) = true := beq_iff_eq.mpr c8
       have c8b1 : (((rd_T77 l0 x5_1).f1).toList != t311.toList) = false := bne_eq_false_iff_eq.mpr c8
       clear c8
       by_cases c9 : ((rd_T77 l0 x5_1).f2) = (wrap64 ((wrap64 (x1_1 + 1)) + 1))
       ·rw [if_pos c9] at H
        have c9b0 : (((rd_T77 l0 x5_1).f2) == (wrap64 ((wrap64 (x1_1 + 1)) + 1))) = true := beq_iff_eq.mpr c9
        have c9b1 : (((rd_T77 l0 x5_1).f2) != (wrap64 ((wrap64 (x1_1 + 1)) + 1))) = false := bne_eq_false_iff_eq.mpr c9
        clear c9
        by_cases c10 : ((rd_T77 l0 x5_1).f3) = (wrap64 ((wrap64 ((wrap64 (x1_1 + 1)) + 1)) + 1))
        ·rw [if_pos c10] at H
         have c10b0 : (((rd_T77 l0 x5_1).f3) == (wrap64 ((wrap64 ((wrap64 (x1_1 + 1)) + 1)) + 1))) = true := beq_iff_eq.mpr c10
         have c10b1 : (((rd_T77 l0 x5_1).f3) != (wrap64 ((wrap64 ((wrap64 (x1_1 + 1)) + 1)) + 1))) = false := bne_eq_false_iff_eq.mpr c10
         clear c10
         by_cases c11 : ((rd_T77 l0 x5_1).f4) = (wrap64 ((wrap64 ((wrap64 ((wrap64 (x1_1 + 1)) + 1)) + 1)) + 1))
         ·rw [if_pos c11] at H
          have c11b0 : (((rd_T77 l0 x5_1).f4) == (wrap64 ((wrap64 ((wrap64 ((wrap64 (x1_1 + 1)) + 1)) + 1)) + 1))) = true := beq_iff_eq.mpr c11
          have c11b1 : (((rd_T77 l0 x5_1).f4) != (wrap64 ((wrap64 ((wrap64 ((wrap64 (x1_1 + 1)) + 1)) + 1)) + 1))) = false := bne_eq_false_iff_eq.mpr c11
          clear c11
          by_cases c12 : ((rd_T77 l0 x5_1).f5) = (wrap64 ((wrap64 ((wrap64 ((wrap64 ((wrap64 (x1_1 + 1)) + 1)) + 1)) + 1)) + 1))
          ·rw [if_pos c12] at H
           have c12b0 : (((rd_T77 l0 x5_1).f5) == (wrap64 ((wrap64 ((wrap64 ((wrap64 ((wrap64 (x1_1 + 1)) + 1)) + 1)) + 1)) + 1))) = true := beq_iff_eq.mpr c12
           have c12b1 : (((rd_T77 l0 x5_1).f5) != (wrap64 ((wrap64 ((wrap64 ((wrap64 ((wrap64 (x1_1 + 1)) + 1)) + 1)) + 1)) + 1))) = false := bne_eq_false_iff_eq.mpr c12
           clear c12
           by_cases c13 : ((rd_T77 l0 x5_1).f6) = (wrap64 ((wrap64 ((wrap64 ((wrap64 ((wrap64 ((wrap64 (x1_1 + 1)) + 1)) + 1)) + 1)) + 1)) + 1))
           ·rw [if_pos c13] at H
            have c13b0 : (((rd_T77 l0 x5_1).f6) == (wrap64 ((wrap64 ((wrap64 ((wrap64 ((wrap64 ((wrap64 (x1_1 + 1)) + 1)) + 1)) + 1)) + 1)) + 1))) = true := beq_iff_eq.mpr c13
            have c13b1 : (((rd_T77 l0 x5_1).f6) != (wrap64 ((wrap64 ((wrap64 ((wrap64 ((wrap64 ((wrap64 (x1_1 + 1)) + 1)) + 1)) + 1)) + 1)) + 1))) = false := bne_eq_false_iff_eq.mpr c13
            clear c13
            have H' := Aside0.mk H
            clear H
            try go_wp2
            have n0_ := Aside0.mk (zg HB.out)
            clear HB
            have HB := n0_
            clear n0_
            have p308 : 0 ≤ (x5_1 : Int) := of_decide_eq_true (by with_reducible assumption)
            have q308 : x5_1 < (l0.length : Int) := of_decide_eq_true (by with_reducible assumption)
            obtain ⟨ad308, e308, hx308_0, hx308_1, hx308_2, hx308_3, hx308_4, hx308_5, hx308_6⟩ := at_T77 HR0.out x5_1 p308 q308
            have hw308_6 := hx308_6
            have hw308_5 := hx308_5
            have hw308_4 := hx308_4
            have hw308_3 := hx308_3
            have hw308_2 := hx308_2
            have hw308_1 := hx308_1
            have hw308_0 := hx308_0
            cases e308
            replace hx308_0 := zb HB.out hx308_0
            replace hx308_1 := zb HB.out hx308_1
            replace hx308_2 := zb HB.out hx308_2
            replace hx308_3 := zb HB.out hx308_3
            replace hx308_4 := zb HB.out hx308_4
            replace hx308_5 := zb HB.out hx308_5
            replace hx308_6 := zb HB.out hx308_6
            replace p308 := eq_true p308
            replace q308 := eq_true q308
            refine start_ (n := 8) (S := fun w' => e77 w' (ad308.add ((x5_1).toNat * 7)) (rd_T77 l0 x5_1)) (ds := []) #[false, false, false, false, false, false, false, false] (by kernel_rfl) rfl rfl ⟨(zb HB.out hw308_0), (zb HB.out hw308_1), (zb HB.out hw308_2), (zb HB.out hw308_3), (zb HB.out hw308_4), (zb HB.out hw308_5), (zb HB.out hw308_6)⟩ (fun hHeld => ?_); refine with_tabW laws_heldNodeS.tab4 laws_heldNodeS.bits4 (fun HT_ HW_ => ?_)
            generalize wr.drew = w14 at HB hx308_0 hx308_1 hx308_2 hx308_3 hx308_4 hx308_5 hx308_6 hHeld ⊢
            refine pu 0 12 rfl rfl (zq HT_.out (by kernel_rfl)) (fun _ _ _ _ h => h) (by rfl) ⟨_, _, fun w' => by go_simp; rfl, by simp only [pt, ps, p0, p1, zo, zp]; rfl, ?_⟩
            refine pu 1 13 rfl rfl (zq HT_.out (by kernel_rfl)) (fun _ _ _ _ h => h) (by rfl) ⟨_, _, fun w' => by go_simp; rfl, by simp only [pt, ps, p0, p1, zo, zp]; rfl, ?_⟩
            refine pu 2 14 rfl rfl (zq HT_.out (by kernel_rfl)) (fun _ _ _ _ h => h) (by rfl) ⟨_, _, fun w' => by go_simp; rfl, by simp only [pt, ps, p0, p1, zo, zp]; rfl, ?_⟩
            refine pu 3 15 rfl rfl (zq HT_.out (by kernel_rfl)) (fun _ _ _ _ h => h) (by rfl) ⟨_, _, fun w' => by go_simp; rfl, by simp only [pt, ps, p0, p1, zo, zp]; rfl, ?_⟩
            refine pu 5 17 rfl rfl (zq HT_.out (by kernel_rfl)) (fun _ _ _ _ h => h) (by rfl) ⟨_, _, fun w' => by go_simp; rfl, by simp only [pt, ps, p0, p1, zo, zp]; rfl, ?_⟩
            refine ta 4 16 rfl rfl (take_ofW HT_.out HW_.out (by kernel_rfl)) (fun _ _ _ _ h => h) (by rfl) hHeld ⟨_, _, by rintro w' ⟨s0, s1, s2, s3, s4, s5, s6⟩; go_simp; rfl, by simp only [pt, ps, p0, p1, zo, zp]; rfl, ?_⟩
            refine one_ (i := 6) (N := some 18) #[true, true, true, true, true, true, true, false] rfl rfl (one_of HT_.out (by kernel_rfl)) (by decide) (fun K hK => ?_)
            refine goes_ Tryd.func110 (by kernel_rfl) rfl #[.int .i64 x1_1] (by rfl) rfl rfl (by (try simp only [List.map_toArray, List.map_cons, List.map_nil]); first | done | rfl) ?_
            with_reducible refine (laws_markText.calls k1 x1_1 t309 _ A5.out).mono ?_
            rintro e w15 ⟨rfl, hb⟩
            refine ⟨_, rfl, ?_⟩
            have n0_ := Aside0.mk (zn (by repeat (first | (with_reducible first | exact HB.out | apply zh | apply zf | apply zg) | exact HB.out)) hb)
            clear HB
            have HB := n0_
            clear n0_
            (try clear hb)
            (try clear hb2)
            (try clear hk)
            (try clear hi)
            refine hK.out _ _ ⟨(zb HB.out hw308_0), (zb HB.out hw308_1), (zb HB.out hw308_2), (zb HB.out hw308_3), (zb HB.out hw308_4), (zb HB.out hw308_5), (zb HB.out hw308_6)⟩ (fun hHeld => ?_)
            clear hK K
            refine norm_ (a' := ?_) ?_ ?_
            rotate_left
            ·show Act.put _ (some 18) _ = _
             simp only [pt, ps, p0, p1, zo, zp]
             rfl
            refine pu 7 19 rfl rfl (zq HT_.out (by kernel_rfl)) (fun _ _ _ _ h => h) (by rfl) ⟨_, _, fun w' => by go_simp; rfl, by simp only [pt, ps, p0, p1, zo, zp]; rfl, ?_⟩
            refine done_ (done_of HT_.out (by kernel_rfl)) ?_
            try go_wp2
            have n0_ := Aside0.mk (zg HB.out)
            clear HB
            have HB := n0_
            clear n0_
            have p310 : 0 ≤ (x5_1 : Int) := of_decide_eq_true (by with_reducible assumption)
            have q310 : x5_1 < (l0.length : Int) := of_decide_eq_true (by with_reducible assumption)
            obtain ⟨ad310, e310, hx310_0, hx310_1, hx310_2, hx310_3, hx310_4, hx310_5, hx310_6⟩ := at_T77 HR0.out x5_1 p310 q310
            have hw310_6 := hx310_6
            have hw310_5 := hx310_5
            have hw310_4 := hx310_4
            have hw310_3 := hx310_3
            have hw310_2 := hx310_2
            have hw310_1 := hx310_1
            have hw310_0 := hx310_0
            obtain rfl : ad308 = ad310 := (by injection e310)
            replace hx310_0 := zb HB.out hx310_0
            replace hx310_1 := zb HB.out hx310_1
            replace hx310_2 := zb HB.out hx310_2
            replace hx310_3 := zb HB.out hx310_3
            replace hx310_4 := zb HB.out hx310_4
            replace hx310_5 := zb HB.out hx310_5
            replace hx310_6 := zb HB.out hx310_6
            replace p310 := eq_true p310
            replace q310 := eq_true q310
            refine start_ (n := 8) (S := fun w' => e77 w' (ad308.add ((x5_1).toNat * 7)) (rd_T77 l0 x5_1)) (ds := []) #[false, false, false, false, false, false, false, false] (by kernel_rfl) rfl rfl ⟨(zb HB.out hw310_0), (zb HB.out hw310_1), (zb HB.out hw310_2), (zb HB.out hw310_3), (zb HB.out hw310_4), (zb HB.out hw310_5), (zb HB.out hw310_6)⟩ (fun hHeld => ?_); refine with_tabW laws_heldNodeS.tab7 laws_heldNodeS.bits7 (fun HT_ HW_ => ?_)
            generalize w15.drew = w16 at HB hx310_0 hx310_1 hx310_2 hx310_3 hx310_4 hx310_5 hx310_6 hHeld ⊢
            refine pu 0 22 rfl rfl (zq HT_.out (by kernel_rfl)) (fun _ _ _ _ h => h) (by rfl) ⟨_, _, fun w' => by go_simp; rfl, by simp only [pt, ps, p0, p1, zo, zp]; rfl, ?_⟩
            refine pu 1 23 rfl rfl (zq HT_.out (by kernel_rfl)) (fun _ _ _ _ h => h) (by rfl) ⟨_, _, fun w' => by go_simp; rfl, by simp only [pt, ps, p0, p1, zo, zp]; rfl, ?_⟩
            refine pu 2 24 rfl rfl (zq HT_.out (by kernel_rfl)) (fun _ _ _ _ h => h) (by rfl) ⟨_, _, fun w' => by go_simp; rfl, by simp only [pt, ps, p0, p1, zo, zp]; rfl, ?_⟩
            refine pu 3 25 rfl rfl (zq HT_.out (by kernel_rfl)) (fun _ _ _ _ h => h) (by rfl) ⟨_, _, fun w' => by go_simp; rfl, by simp only [pt, ps, p0, p1, zo, zp]; rfl, ?_⟩
            refine pu 5 27 rfl rfl (zq HT_.out (by kernel_rfl)) (fun _ _ _ _ h => h) (by rfl) ⟨_, _, fun w' => by go_simp; rfl, by simp only [pt, ps, p0, p1, zo, zp]; rfl, ?_⟩
            refine ta 4 26 rfl rfl (take_ofW HT_.out HW_.out (by kernel_rfl)) (fun _ _ _ _ h => h) (by rfl) hHeld ⟨_, _, by rintro w' ⟨s0, s1, s2, s3, s4, s5, s6⟩; go_simp; rfl, by simp only [pt, ps, p0, p1, zo, zp]; rfl, ?_⟩
            refine one_ (i := 6) (N := some 28) #[true, true, true, true, true, true, true, false] rfl rfl (one_of HT_.out (by kernel_rfl)) (by decide) (fun K hK => ?_)
            refine goes_ Tryd.func110 (by kernel_rfl) rfl #[.int .i64 (wrap64 (x1_1 + 1))] (by rfl) rfl rfl (by (try simp only [List.map_toArray, List.map_cons, List.map_nil]); first | done | rfl) ?_
            with_reducible refine (laws_markText.calls k1 (wrap64 (x1_1 + 1)) t311 _ A7.out).mono ?_
            rintro e w17 ⟨rfl, hb⟩
            refine ⟨_, rfl, ?_⟩
            have n0_ := Aside0.mk (zn (by repeat (first | (with_reducible first | exact HB.out | apply zh | apply zf | apply zg) | exact HB.out)) hb)
            clear HB
            have HB := n0_
            clear n0_
            (try clear hb)
            (try clear hb2)
            (try clear hk)
            (try clear hi)
            refine hK.out _ _ ⟨(zb HB.out hw310_0), (zb HB.out hw310_1), (zb HB.out hw310_2), (zb HB.out hw310_3), (zb HB.out hw310_4), (zb HB.out hw310_5), (zb HB.out hw310_6)⟩ (fun hHeld => ?_)
            clear hK K
            refine norm_ (a' := ?_) ?_ ?_
            rotate_left
            ·show Act.put _ (some 28) _ = _
             simp only [pt, ps, p0, p1, zo, zp]
             rfl
            refine pu 7 29 rfl rfl (zq HT_.out (by kernel_rfl)) (fun _ _ _ _ h => h) (by rfl) ⟨_, _, fun w' => by go_simp; rfl, by simp only [pt, ps, p0, p1, zo, zp]; rfl, ?_⟩
            refine done_ (done_of HT_.out (by kernel_rfl)) ?_
            have p312 : 0 ≤ (x5_1 : Int) := of_decide_eq_true (by with_reducible assumption)
            have q312 : x5_1 < (l0.length : Int) := of_decide_eq_true (by with_reducible assumption)
            obtain ⟨ad312, e312, hx312_0, hx312_1, hx312_2, hx312_3, hx312_4, hx312_5, hx312_6⟩ := at_T77 HR0.out x5_1 p312 q312
            obtain rfl : ad308 = ad312 := (by injection e312)
            replace hx312_0 := zb HB.out hx312_0
            replace hx312_1 := zb HB.out hx312_1
            replace hx312_2 := zb HB.out hx312_2
            replace hx312_3 := zb HB.out hx312_3
            replace hx312_4 := zb HB.out hx312_4
            replace hx312_5 := zb HB.out hx312_5
            replace hx312_6 := zb HB.out hx312_6
            replace p312 := eq_true p312
            replace q312 := eq_true q312
            have p313 : 0 ≤ (x5_1 : Int) := of_decide_eq_true (by with_reducible assumption)
            have q313 : x5_1 < (l0.length : Int) := of_decide_eq_true (by with_reducible assumption)
            obtain ⟨ad313, e313, hx313_0, hx313_1, hx313_2, hx313_3, hx313_4, hx313_5, hx313_6⟩ := at_T77 HR0.out x5_1 p313 q313
            obtain rfl : ad308 = ad313 := (by injection e313)
            replace hx313_0 := zb HB.out hx313_0
            replace hx313_1 := zb HB.out hx313_1
            replace hx313_2 := zb HB.out hx313_2
            replace hx313_3 := zb HB.out hx313_3
            replace hx313_4 := zb HB.out hx313_4
            replace hx313_5 := zb HB.out hx313_5
            replace hx313_6 := zb HB.out hx313_6
            replace p313 := eq_true p313
            replace q313 := eq_true q313
            have p314 : 0 ≤ (x5_1 : Int) := of_decide_eq_true (by with_reducible assumption)
            have q314 : x5_1 < (l0.length : Int) := of_decide_eq_true (by with_reducible assumption)
            obtain ⟨ad314, e314, hx314_0, hx314_1, hx314_2, hx314_3, hx314_4, hx314_5, hx314_6⟩ := at_T77 HR0.out x5_1 p314 q314
            obtain rfl : ad308 = ad314 := (by injection e314)
            replace hx314_0 := zb HB.out hx314_0
            replace hx314_1 := zb HB.out hx314_1
            replace hx314_2 := zb HB.out hx314_2
            replace hx314_3 := zb HB.out hx314_3
            replace hx314_4 := zb HB.out hx314_4
            replace hx314_5 := zb HB.out hx314_5
            replace hx314_6 := zb HB.out hx314_6
            replace p314 := eq_true p314
            replace q314 := eq_true q314
            have p315 : 0 ≤ (x5_1 : Int) := of_decide_eq_true (by with_reducible assumption)
            have q315 : x5_1 < (l0.length : Int) := of_decide_eq_true (by with_reducible assumption)
            obtain ⟨ad315, e315, hx315_0, hx315_1, hx315_2, hx315_3, hx315_4, hx315_5, hx315_6⟩ := at_T77 HR0.out x5_1 p315 q315
            obtain rfl : ad308 = ad315 := (by injection e315)
            replace hx315_0 := zb HB.out hx315_0
            replace hx315_1 := zb HB.out hx315_1
            replace hx315_2 := zb HB.out hx315_2
            replace hx315_3 := zb HB.out hx315_3
            replace hx315_4 := zb HB.out hx315_4
            replace hx315_5 := zb HB.out hx315_5
            replace hx315_6 := zb HB.out hx315_6
            replace p315 := eq_true p315
            replace q315 := eq_true q315
            have p316 : 0 ≤ (x5_1 : Int) := of_decide_eq_true (by with_reducible assumption)
            have q316 : x5_1 < (l0.length : Int) := of_decide_eq_true (by with_reducible assumption)
            obtain ⟨ad316, e316, hx316_0, hx316_1, hx316_2, hx316_3, hx316_4, hx316_5, hx316_6⟩ := at_T77 HR0.out x5_1 p316 q316
            obtain rfl : ad308 = ad316 := (by injection e316)
            replace hx316_0 := zb HB.out hx316_0
            replace hx316_1 := zb HB.out hx316_1
            replace hx316_2 := zb HB.out hx316_2
            replace hx316_3 := zb HB.out hx316_3
            replace hx316_4 := zb HB.out hx316_4
            replace hx316_5 := zb HB.out hx316_5
            replace hx316_6 := zb HB.out hx316_6
            replace p316 := eq_true p316
            replace q316 := eq_true q316
            try go_wp2
            go_roundg k1
            case measure => have := HK1.out; omega
            case rel => exact ⟨(wrap64 ((wrap64 ((wrap64 ((wrap64 ((wrap64 ((wrap64 ((wrap64 (x1_1 + 1)) + 1)) + 1)) + 1)) + 1)) + 1)) + 1)), (wrap64 (x5_1 + 1)), (by first | rfl | (simp [*]; done)), (by first | rfl | (simp [*]; done)), H', ⟨by have := HK1.out; omega⟩, ⟨by repeat (first | (with_reducible first | exact HB.out | apply zh | apply zf | apply zg) | exact HB.out)⟩⟩
           ·rw [if_neg c13] at H
            have c13b0 : (((rd_T77 l0 x5_1).f6) == (wrap64 ((wrap64 ((wrap64 ((wrap64 ((wrap64 ((wrap64 (x1_1 + 1)) + 1)) + 1)) + 1)) + 1)) + 1))) = false := beq_eq_false_iff_ne.mpr c13
            have c13b1 : (((rd_T77 l0 x5_1).f6) != (wrap64 ((wrap64 ((wrap64 ((wrap64 ((wrap64 ((wrap64 (x1_1 + 1)) + 1)) + 1)) + 1)) + 1)) + 1))) = true := bne_iff_ne.mpr c13
            exact absurd H (by simp)
          ·rw [if_neg c12] at H
           have c12b0 : (((rd_T77 l0 x5_1).f5) == (wrap64 ((wrap64 ((wrap64 ((wrap64 ((wrap64 (x1_1 + 1)) + 1)) + 1)) + 1)) + 1))) = false := beq_eq_false_iff_ne.mpr c12
           have c12b1 : (((rd_T77 l0 x5_1).f5) != (wrap64 ((wrap64 ((wrap64 ((wrap64 ((wrap64 (x1_1 + 1)) + 1)) + 1)) + 1)) + 1))) = true := bne_iff_ne.mpr c12
           exact absurd H (by simp)
         ·rw [if_neg c11] at H
          have c11b0 : (((rd_T77 l0 x5_1).f4) == (wrap64 ((wrap64 ((wrap64 ((wrap64 (x1_1 + 1)) + 1)) + 1)) + 1))) = false := beq_eq_false_iff_ne.mpr c11
          have c11b1 : (((rd_T77 l0 x5_1).f4) != (wrap64 ((wrap64 ((wrap64 ((wrap64 (x1_1 + 1)) + 1)) + 1)) + 1))) = true := bne_iff_ne.mpr c11
          exact absurd H (by simp)
        ·rw [if_neg c10] at H
         have c10b0 : (((rd_T77 l0 x5_1).f3) == (wrap64 ((wrap64 ((wrap64 (x1_1 + 1)) + 1)) + 1))) = false := beq_eq_false_iff_ne.mpr c10
         have c10b1 : (((rd_T77 l0 x5_1).f3) != (wrap64 ((wrap64 ((wrap64 (x1_1 + 1)) + 1)) + 1))) = true := bne_iff_ne.mpr c10
         exact absurd H (by simp)
       ·rw [if_neg c9] at H
        have c9b0 : (((rd_T77 l0 x5_1).f2) == (wrap64 ((wrap64 (x1_1 + 1)) + 1))) = false := beq_eq_false_iff_ne.mpr c9
        have c9b1 : (((rd_T77 l0 x5_1).f2) != (wrap64 ((wrap64 (x1_1 + 1)) + 1))) = true := bne_iff_ne.mpr c9
        exact absurd H (by simp)
      ·rw [if_neg c8] at H
       have c8b0 : (((rd_T77 l0 x5_1).f1).toList == t311.toList) = false := beq_eq_false_iff_ne.mpr c8
       have c8b1 : (((rd_T77 l0 x5_1).f1).toList != t311.toList) = true := bne_iff_ne.mpr c8
       exact absurd H (by simp)
     ·rw [if_neg c6] at H
      have c6b0 : (((rd_T77 l0 x5_1).f0).toList == t309.toList) = false := beq_eq_false_iff_ne.mpr c6
      have c6b1 : (((rd_T77 l0 x5_1).f0).toList != t309.toList) = true := bne_iff_ne.mpr c6
      exact absurd H (by simp)
    ·rw [if_neg c4] at H
     exact absurd H (by simp)
   ·rw [if_neg c3] at H
    have c3b0 : decide (x5_1 < (l0.length : Int)) = false := decide_eq_false c3
    clear c3
    obtain rfl := Option.some.inj H
    go_wp2
    go_ret
    exact ⟨by first | rfl | (simp [*] <;> rfl), by repeat (first | (with_reducible first | exact HB.out | apply zh | apply zf | apply zg) | exact HB.out)⟩

def laws_heldTree.f (k : Nat) (l0_0 : List (S77)) (a1 : Int) : Option (Int) := (laws_heldNodeS.f k l0_0 a1).bind fun t318 => (if t318 < 0 then none else (some t318))
theorem laws_heldTree.mono : ∀ a0 a1 k, LeO (laws_heldTree.f k a0 a1) (laws_heldTree.f (k + 1) a0 a1) := by
 intro a0 a1 k
 unfold laws_heldTree.f
 repeat' first
   | (with_reducible exact laws_heldNodeS.mono _ _ _)
   | (with_reducible exact LeO.refl _)
   | (with_reducible exact LeO.none _)
   | (with_reducible refine LeO.ite ?_ ?_)
   | (with_reducible refine LeO.bind ?_ (fun _ => ?_))
   | exact laws_heldNodeS.mono _ _ _
   | exact LeO.none _
   | refine LeO.ite ?_ ?_
   | refine LeO.bind ?_ (fun _ => ?_)
set_option maxHeartbeats 8000000 in
set_option maxRecDepth 100000 in
theorem laws_heldTree.calls (k : Nat) (A0_0 : Option Addr) (c0_0 : Nat) (l0_0 : List (S77)) (a1 : Int) (r : Int) (w : World) (hr0_0 : Kd.C k77 w A0_0 l0_0.length l0_0) (hc0_0 : l0_0.length ≤ c0_0) (h : laws_heldTree.f k l0_0 a1 = some r) :
  Calls Tryd.prog 26 #[.agg #[.slice A0_0 l0_0.length c0_0], .int .i64 a1] w fun e w' => e = .returned (.int .i64 r) ∧ Below w.heap.size w w' := by
 have hu25 := Tryd.underlying25
 have HR0_0 := Aside0.mk hr0_0
 have HC0_0 := Aside0.mk hc0_0
 clear hr0_0 hc0_0
 have HB := Aside0.mk (Below.refl w.heap.size w)
 have H : ((laws_heldNodeS.f k l0_0 a1).bind fun t318 => (if t318 < 0 then none else (some t318))) = some r := h
 clear h
 replace H := Option.bind_eq_some_iff.mp H
 obtain ⟨t318, A30, H⟩ := H
 try dsimp only at H
 have A3 := Aside0.mk A30
 clear A30
 by_cases c4 : t318 < 0
 ·rw [if_pos c4] at H
  have c4b0 : decide (t318 < 0) = true := decide_eq_true c4
  clear c4
  exact absurd H (by simp)
 ·rw [if_neg c4] at H
  have c4b0 : decide (t318 < 0) = false := decide_eq_false c4
  clear c4
  obtain rfl := Option.some.inj H
  go_enter Tryd.func26, Tryd.ntmps26
  go_wp2_with (first | ((with_reducible refine zu (N := 2) rfl ?_); refine zy ?hg (N := 2) ?hd (cs := #[.slice A0_0 l0_0.length c0_0]) (t := 25) ?hr ?_; (case hd => rfl); (case hg => rfl); (case hr => first | (go_simp; done) | (go_simp; rfl)); intro zB hg w8 hbox hb; have n0_ := Aside0.mk (zn (by exact bl HB.out) hb); have n1_ := Aside0.mk (hbox); have n2_ := Aside0.mk ((by rw [hg]; exact (zm (by exact bl HB.out)) : w.heap.size ≤ zB)); have n3_ := Aside0.mk ((by rw [hg]; exact (zm (by exact bl HB.out)) : w.heap.size ≤ zB)); clear HB; have HB := n0_; have zA := n1_; have GW317 := n2_; have zC := n3_; clear n0_ n1_ n2_ n3_; clear hb hbox hg; have zD : w8.cell? ⟨zB, 0, none⟩ = some (.slice A0_0 l0_0.length c0_0) := (zc zA.out 0).trans rfl; have zE := ze zA.out 0) | ((with_reducible refine zr (f := 71) rfl ?_); refine zz (some 8) rfl rfl Tryd.func71 (by kernel_rfl) rfl #[.slice A0_0 l0_0.length c0_0, .int .i64 a1] rfl (by (try simp only [List.map_toArray, List.map_cons, List.map_nil]); first | done | rfl) ?_; (with_reducible refine (laws_heldNodeS.calls k _ _ l0_0 a1 t318 _ ?side1 ?side2 A3.out).mono ?_); (case side1 => repeat (first | exact (Kd.C_below HR0_0.out HB.out) | (with_reducible refine Kd.C_alloc ?_ _) | (with_reducible refine Kd.C_drewN ?_ _) | (with_reducible refine Kd.C_drew ?_))); (case side2 => exact HC0_0.out); rintro e w10 ⟨rfl, hb⟩; refine ⟨_, rfl, ?_⟩; have n0_ := Aside0.mk (zi (g := zB) (o := .cells #[.slice A0_0 l0_0.length c0_0] 25 (0, 0)) (BL zA.out) hb); have n1_ := Aside0.mk (zn (by exact bl HB.out) hb); clear zA; clear HB; have zA := n0_; have HB := n1_; clear n0_ n1_; (try clear hb); (try clear hb2); (try clear hk); (try clear hi)))
  go_ret
  exact ⟨by first | rfl | (simp [*] <;> rfl), by repeat (first | (with_reducible first | exact HB.out | apply zh | apply zf | apply zg | refine zd ?_ zC.out) | exact HB.out)⟩

end Go.Proofs.YtfiojiokmkiflaaDoor.GFnExactApplyTxn
