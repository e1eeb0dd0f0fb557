/-
  No cell of these rows narrows 'for every input' (looked for: loops, veiled, ifaces, maps, wideKeys, modest, calm, conditions, laid).
  DERIVED. THE GIVEN ROWS OF THIS SEAT. 4 by the template 'for every input the law returns true; each argument reads behind the call as it read before'; 0 by the template 'total and deterministic' (their statements: YtejecjjimggjeaaTotals.lean).
  GIVEN WITH THE SEED: the statements are not yours to turn. If you find one false, say at which input.
  Laid BY PROGRAM, IN A SANDBOX (cutbox-rows.mjs): the forced cells as the released guide's own fill.sh prints them over the translation c3cadf8de38cb79d… (all of the seat's roots in one cut). By AI agents, Wed Nov 11 2026. No macro, syntax, notation, axiom, sorry.
-/
import Derived.Test.YtejecjjimggjeaaChecked
import GoSem.Claim
import GoSem.ClaimJoined
import GoSem.ClaimMapViews
import Derived.JoinedTies
import Derived.KernelRfl
namespace Go.Proofs.Ytejecjjimggjeaa
/- THE CELL 'sum', in the pinned program and in every row, IS THE sha256 OF THE DUMP (.gsa) THAT YtejecjjimggjeaaProg.lean LOADS. Nothing in Lean hashes anything: it is a label: what it is worth is what the hold of that sum in a sandbox is worth. -/
noncomputable def Try.pinned : Pinned := { name := "ytejecjjimggjeaa", sum := "c3cadf8de38cb79db4c445e7a5a8a08c18c7836a9838318c4e391c25c1c52397", checked := Try.checked }
namespace Rows
def none {H : Type} : Left H := { results := [], args := [] }

/-- 'laws.FnExactScanFrames': WHATEVER THE INPUT: true; the input reads as it did. -/
def fnExactScanFramesSpec : ChangeSpec := { name := "fnExactScanFrames", fn := fun _ => fun
  | [d] => { results := [.lit (.bool true)], args := [d] }
  | _ => none }
def fnExactScanFramesRow : OpenClaim := { program := "ytejecjjimggjeaa", sum := "c3cadf8de38cb79db4c445e7a5a8a08c18c7836a9838318c4e391c25c1c52397", func := "loop.example/s01594/laws.FnExactScanFrames", spec := "fnExactScanFrames", unfollowed := true, recurses := true, apart := false }
def FnExactScanFramesSaid : Prop := fnExactScanFramesRow.holds Try.pinned (OpenSpec.ofChange fnExactScanFramesSpec)

/-- ITS FALSE NEIGHBOUR: 'it returns false'. Refute it at one input. -/
def fnExactScanFramesWrong : ChangeSpec := { name := "fnExactScanFrames", fn := fun _ => fun
  | [d] => { results := [.lit (.bool false)], args := [d] }
  | _ => none }
def FnExactScanFramesWrongFalsely : Prop := fnExactScanFramesRow.holds Try.pinned (OpenSpec.ofChange fnExactScanFramesWrong)

/-- 'laws.FnSync': WHATEVER THE INPUT: true; the input reads as it did. -/
def fnSyncSpec : ChangeSpec := { name := "fnSync", fn := fun _ => fun
  | [d1, d2] => { results := [.lit (.bool true)], args := [d1, d2] }
  | _ => none }
def fnSyncRow : OpenClaim := { program := "ytejecjjimggjeaa", sum := "c3cadf8de38cb79db4c445e7a5a8a08c18c7836a9838318c4e391c25c1c52397", func := "loop.example/s01594/laws.FnSync", spec := "fnSync", unfollowed := true, recurses := true, apart := false }
def FnSyncSaid : Prop := fnSyncRow.holds Try.pinned (OpenSpec.ofChange fnSyncSpec)

/-- ITS FALSE NEIGHBOUR: 'it returns false'. Refute it at one input. -/
def fnSyncWrong : ChangeSpec := { name := "fnSync", fn := fun _ => fun
  | [d1, d2] => { results := [.lit (.bool false)], args := [d1, d2] }
  | _ => none }
def FnSyncWrongFalsely : Prop := fnSyncRow.holds Try.pinned (OpenSpec.ofChange fnSyncWrong)

/-- 'laws.FnTornLog': WHATEVER THE INPUT: true; the input reads as it did. -/
def fnTornLogSpec : ChangeSpec := { name := "fnTornLog", fn := fun _ => fun
  | [d1, d2] => { results := [.lit (.bool true)], args := [d1, d2] }
  | _ => none }
def fnTornLogRow : OpenClaim := { program := "ytejecjjimggjeaa", sum := "c3cadf8de38cb79db4c445e7a5a8a08c18c7836a9838318c4e391c25c1c52397", func := "loop.example/s01594/laws.FnTornLog", spec := "fnTornLog", unfollowed := true, recurses := true, apart := false }
def FnTornLogSaid : Prop := fnTornLogRow.holds Try.pinned (OpenSpec.ofChange fnTornLogSpec)

/-- ITS FALSE NEIGHBOUR: 'it returns false'. Refute it at one input. -/
def fnTornLogWrong : ChangeSpec := { name := "fnTornLog", fn := fun _ => fun
  | [d1, d2] => { results := [.lit (.bool false)], args := [d1, d2] }
  | _ => none }
def FnTornLogWrongFalsely : Prop := fnTornLogRow.holds Try.pinned (OpenSpec.ofChange fnTornLogWrong)

/-- 'laws.FnTornSuper': WHATEVER THE INPUT: true; the input reads as it did. -/
def fnTornSuperSpec : ChangeSpec := { name := "fnTornSuper", fn := fun _ => fun
  | [d1, d2] => { results := [.lit (.bool true)], args := [d1, d2] }
  | _ => none }
def fnTornSuperRow : OpenClaim := { program := "ytejecjjimggjeaa", sum := "c3cadf8de38cb79db4c445e7a5a8a08c18c7836a9838318c4e391c25c1c52397", func := "loop.example/s01594/laws.FnTornSuper", spec := "fnTornSuper", unfollowed := true, recurses := true, apart := false }
def FnTornSuperSaid : Prop := fnTornSuperRow.holds Try.pinned (OpenSpec.ofChange fnTornSuperSpec)

/-- ITS FALSE NEIGHBOUR: 'it returns false'. Refute it at one input. -/
def fnTornSuperWrong : ChangeSpec := { name := "fnTornSuper", fn := fun _ => fun
  | [d1, d2] => { results := [.lit (.bool false)], args := [d1, d2] }
  | _ => none }
def FnTornSuperWrongFalsely : Prop := fnTornSuperRow.holds Try.pinned (OpenSpec.ofChange fnTornSuperWrong)

/- THE SECOND FORM. 'bulk': how many values and letters a reading holds, each counted each time it is reached (what is shared counts as often as it is met; a slice's spare places count too). A statement '..UptoSaid' is the law's where the arguments, and the package variables that the reading takes, are together of bulk at most 1048576: NARROWER than '..Said'. Prove '..Said' where nothing that the law and all that it calls make is longer than what came in: it says more and counts as full. Else prove '..UptoSaid'. A law counts once. -/
mutual
def uptoBulk {H : Type} : DataW H → Nat
  | .lit (.string bytes) => bytes.length + 1
  | .lit _ => 1
  | .nil => 1
  | .ptr d => uptoBulk d + 1
  | .slice elems spare => uptoBulkAll elems + uptoBulkAll spare + 1
  | .agg parts => uptoBulkAll parts + 1
  | .iface _ d => uptoBulk d + 1
  | .map entries => uptoBulkEntries entries + 1
  | .held _ => 1
def uptoBulkAll {H : Type} : List (DataW H) → Nat
  | [] => 0
  | d :: r => uptoBulk d + uptoBulkAll r
def uptoBulkEntries {H : Type} : List (Lit × DataW H) → Nat
  | [] => 0
  | x :: r => uptoBulkEntry x + uptoBulkEntries r
def uptoBulkEntry {H : Type} : Lit × DataW H → Nat
  | (.string bytes, d) => bytes.length + uptoBulk d + 1
  | (_, d) => uptoBulk d + 1
 end
def uptoSmall : (H : Type) → List (DataW H) → Bool := fun _ ds => decide (uptoBulkAll ds ≤ 1048576)
def OpenSpec.upto (s : _root_.Go.ChangeSpec) : _root_.Go.OpenSpec := { _root_.Go.OpenSpec.ofChange s with cond := some uptoSmall }

/-- 'laws.FnExactScanFrames', WHERE WHAT IT READS IS OF BULK AT MOST 1048576: true; the input reads as it did. -/
def fnExactScanFramesUptoRow : OpenClaim := { program := "ytejecjjimggjeaa", sum := "c3cadf8de38cb79db4c445e7a5a8a08c18c7836a9838318c4e391c25c1c52397", func := "loop.example/s01594/laws.FnExactScanFrames", spec := "fnExactScanFrames", unfollowed := true, recurses := true, apart := false, narrowed := true }
def FnExactScanFramesUptoSaid : Prop := fnExactScanFramesUptoRow.holds Try.pinned (OpenSpec.upto fnExactScanFramesSpec)

/-- 'laws.FnSync', WHERE WHAT IT READS IS OF BULK AT MOST 1048576: true; the input reads as it did. -/
def fnSyncUptoRow : OpenClaim := { program := "ytejecjjimggjeaa", sum := "c3cadf8de38cb79db4c445e7a5a8a08c18c7836a9838318c4e391c25c1c52397", func := "loop.example/s01594/laws.FnSync", spec := "fnSync", unfollowed := true, recurses := true, apart := false, narrowed := true }
def FnSyncUptoSaid : Prop := fnSyncUptoRow.holds Try.pinned (OpenSpec.upto fnSyncSpec)

/-- 'laws.FnTornLog', WHERE WHAT IT READS IS OF BULK AT MOST 1048576: true; the input reads as it did. -/
def fnTornLogUptoRow : OpenClaim := { program := "ytejecjjimggjeaa", sum := "c3cadf8de38cb79db4c445e7a5a8a08c18c7836a9838318c4e391c25c1c52397", func := "loop.example/s01594/laws.FnTornLog", spec := "fnTornLog", unfollowed := true, recurses := true, apart := false, narrowed := true }
def FnTornLogUptoSaid : Prop := fnTornLogUptoRow.holds Try.pinned (OpenSpec.upto fnTornLogSpec)

/-- 'laws.FnTornSuper', WHERE WHAT IT READS IS OF BULK AT MOST 1048576: true; the input reads as it did. -/
def fnTornSuperUptoRow : OpenClaim := { program := "ytejecjjimggjeaa", sum := "c3cadf8de38cb79db4c445e7a5a8a08c18c7836a9838318c4e391c25c1c52397", func := "loop.example/s01594/laws.FnTornSuper", spec := "fnTornSuper", unfollowed := true, recurses := true, apart := false, narrowed := true }
def FnTornSuperUptoSaid : Prop := fnTornSuperUptoRow.holds Try.pinned (OpenSpec.upto fnTornSuperSpec)

end Rows
end Go.Proofs.Ytejecjjimggjeaa
