/-
  No cell of these rows narrows 'for every input' (looked for: loops, veiled, ifaces, maps, wideKeys, modest, calm, conditions, laid).
  DERIVED. THE GIVEN ROWS OF THIS SEAT. 7 by the template 'for every input the law returns true; each argument reads behind the call as it read before'; 0 by the template 'total and deterministic' (their statements: YtlpjpmfhkmddjaaTotals.lean).
  GIVEN WITH THE SEED: the statements are not yours to turn. If you find one false, say at which input.
  Laid BY PROGRAM, IN A SANDBOX (cutbox-rows.mjs): the forced cells as the released guide's own fill.sh prints them over the translation 96b46395e177bfab… (all of the seat's roots in one cut). By AI agents, Wed Nov 11 2026. No macro, syntax, notation, axiom, sorry.
-/
import Derived.Test.YtlpjpmfhkmddjaaChecked
import GoSem.Claim
import GoSem.ClaimJoined
import GoSem.ClaimMapViews
import Derived.JoinedTies
import Derived.KernelRfl
namespace Go.Proofs.Ytlpjpmfhkmddjaa
/- THE CELL 'sum', in the pinned program and in every row, IS THE sha256 OF THE DUMP (.gsa) THAT YtlpjpmfhkmddjaaProg.lean LOADS. Nothing in Lean hashes anything: it is a label: what it is worth is what the hold of that sum in a sandbox is worth. -/
noncomputable def Try.pinned : Pinned := { name := "ytlpjpmfhkmddjaa", sum := "96b46395e177bfabe8f1a863e053eda4aa603eeda51fb2787f519e2ab89623df", checked := Try.checked }
namespace Rows
def none {H : Type} : Left H := { results := [], args := [] }

/-- 'laws.FnTornSuper': WHATEVER THE INPUT: true; the input reads as it did. -/
def fnTornSuperSpec : ChangeSpec := { name := "fnTornSuper", fn := fun _ => fun
  | [d1, d2] => { results := [.lit (.bool true)], args := [d1, d2] }
  | _ => none }
def fnTornSuperRow : OpenClaim := { program := "ytlpjpmfhkmddjaa", sum := "96b46395e177bfabe8f1a863e053eda4aa603eeda51fb2787f519e2ab89623df", func := "loop.example/s01594/laws.FnTornSuper", spec := "fnTornSuper", unfollowed := true, recurses := true, apart := false }
def FnTornSuperSaid : Prop := fnTornSuperRow.holds Try.pinned (OpenSpec.ofChange fnTornSuperSpec)

/-- ITS FALSE NEIGHBOUR: 'it returns false'. Refute it at one input. -/
def fnTornSuperWrong : ChangeSpec := { name := "fnTornSuper", fn := fun _ => fun
  | [d1, d2] => { results := [.lit (.bool false)], args := [d1, d2] }
  | _ => none }
def FnTornSuperWrongFalsely : Prop := fnTornSuperRow.holds Try.pinned (OpenSpec.ofChange fnTornSuperWrong)

/-- 'laws.FnExactDecodeSuper': WHATEVER THE INPUT: true; the input reads as it did. -/
def fnExactDecodeSuperSpec : ChangeSpec := { name := "fnExactDecodeSuper", fn := fun _ => fun
  | [d] => { results := [.lit (.bool true)], args := [d] }
  | _ => none }
def fnExactDecodeSuperRow : OpenClaim := { program := "ytlpjpmfhkmddjaa", sum := "96b46395e177bfabe8f1a863e053eda4aa603eeda51fb2787f519e2ab89623df", func := "loop.example/s01594/laws.FnExactDecodeSuper", spec := "fnExactDecodeSuper", unfollowed := true, recurses := true, apart := false }
def FnExactDecodeSuperSaid : Prop := fnExactDecodeSuperRow.holds Try.pinned (OpenSpec.ofChange fnExactDecodeSuperSpec)

/-- ITS FALSE NEIGHBOUR: 'it returns false'. Refute it at one input. -/
def fnExactDecodeSuperWrong : ChangeSpec := { name := "fnExactDecodeSuper", fn := fun _ => fun
  | [d] => { results := [.lit (.bool false)], args := [d] }
  | _ => none }
def FnExactDecodeSuperWrongFalsely : Prop := fnExactDecodeSuperRow.holds Try.pinned (OpenSpec.ofChange fnExactDecodeSuperWrong)

/-- 'laws.FnExactDiskRead': WHATEVER THE INPUT: true; the input reads as it did. -/
def fnExactDiskReadSpec : ChangeSpec := { name := "fnExactDiskRead", fn := fun _ => fun
  | [d1, d2] => { results := [.lit (.bool true)], args := [d1, d2] }
  | _ => none }
def fnExactDiskReadRow : OpenClaim := { program := "ytlpjpmfhkmddjaa", sum := "96b46395e177bfabe8f1a863e053eda4aa603eeda51fb2787f519e2ab89623df", func := "loop.example/s01594/laws.FnExactDiskRead", spec := "fnExactDiskRead", apart := false }
def FnExactDiskReadSaid : Prop := fnExactDiskReadRow.holds Try.pinned (OpenSpec.ofChange fnExactDiskReadSpec)

/-- ITS FALSE NEIGHBOUR: 'it returns false'. Refute it at one input. -/
def fnExactDiskReadWrong : ChangeSpec := { name := "fnExactDiskRead", fn := fun _ => fun
  | [d1, d2] => { results := [.lit (.bool false)], args := [d1, d2] }
  | _ => none }
def FnExactDiskReadWrongFalsely : Prop := fnExactDiskReadRow.holds Try.pinned (OpenSpec.ofChange fnExactDiskReadWrong)

/-- 'laws.FnExactDiskWrite': WHATEVER THE INPUT: true; the input reads as it did. -/
def fnExactDiskWriteSpec : ChangeSpec := { name := "fnExactDiskWrite", fn := fun _ => fun
  | [d1, d2, d3] => { results := [.lit (.bool true)], args := [d1, d2, d3] }
  | _ => none }
def fnExactDiskWriteRow : OpenClaim := { program := "ytlpjpmfhkmddjaa", sum := "96b46395e177bfabe8f1a863e053eda4aa603eeda51fb2787f519e2ab89623df", func := "loop.example/s01594/laws.FnExactDiskWrite", spec := "fnExactDiskWrite", apart := false }
def FnExactDiskWriteSaid : Prop := fnExactDiskWriteRow.holds Try.pinned (OpenSpec.ofChange fnExactDiskWriteSpec)

/-- ITS FALSE NEIGHBOUR: 'it returns false'. Refute it at one input. -/
def fnExactDiskWriteWrong : ChangeSpec := { name := "fnExactDiskWrite", fn := fun _ => fun
  | [d1, d2, d3] => { results := [.lit (.bool false)], args := [d1, d2, d3] }
  | _ => none }
def FnExactDiskWriteWrongFalsely : Prop := fnExactDiskWriteRow.holds Try.pinned (OpenSpec.ofChange fnExactDiskWriteWrong)

/-- 'laws.FnExactDiskSync': WHATEVER THE INPUT: true; the input reads as it did. -/
def fnExactDiskSyncSpec : ChangeSpec := { name := "fnExactDiskSync", fn := fun _ => fun
  | [d] => { results := [.lit (.bool true)], args := [d] }
  | _ => none }
def fnExactDiskSyncRow : OpenClaim := { program := "ytlpjpmfhkmddjaa", sum := "96b46395e177bfabe8f1a863e053eda4aa603eeda51fb2787f519e2ab89623df", func := "loop.example/s01594/laws.FnExactDiskSync", spec := "fnExactDiskSync", unfollowed := true, recurses := true, apart := false }
def FnExactDiskSyncSaid : Prop := fnExactDiskSyncRow.holds Try.pinned (OpenSpec.ofChange fnExactDiskSyncSpec)

/-- ITS FALSE NEIGHBOUR: 'it returns false'. Refute it at one input. -/
def fnExactDiskSyncWrong : ChangeSpec := { name := "fnExactDiskSync", fn := fun _ => fun
  | [d] => { results := [.lit (.bool false)], args := [d] }
  | _ => none }
def FnExactDiskSyncWrongFalsely : Prop := fnExactDiskSyncRow.holds Try.pinned (OpenSpec.ofChange fnExactDiskSyncWrong)

/-- 'laws.FnExactAreaBytes': WHATEVER THE INPUT: true; the input reads as it did. -/
def fnExactAreaBytesSpec : ChangeSpec := { name := "fnExactAreaBytes", fn := fun _ => fun
  | [d1, d2, d3, d4] => { results := [.lit (.bool true)], args := [d1, d2, d3, d4] }
  | _ => none }
def fnExactAreaBytesRow : OpenClaim := { program := "ytlpjpmfhkmddjaa", sum := "96b46395e177bfabe8f1a863e053eda4aa603eeda51fb2787f519e2ab89623df", func := "loop.example/s01594/laws.FnExactAreaBytes", spec := "fnExactAreaBytes", apart := false }
def FnExactAreaBytesSaid : Prop := fnExactAreaBytesRow.holds Try.pinned (OpenSpec.ofChange fnExactAreaBytesSpec)

/-- ITS FALSE NEIGHBOUR: 'it returns false'. Refute it at one input. -/
def fnExactAreaBytesWrong : ChangeSpec := { name := "fnExactAreaBytes", fn := fun _ => fun
  | [d1, d2, d3, d4] => { results := [.lit (.bool false)], args := [d1, d2, d3, d4] }
  | _ => none }
def FnExactAreaBytesWrongFalsely : Prop := fnExactAreaBytesRow.holds Try.pinned (OpenSpec.ofChange fnExactAreaBytesWrong)

/-- 'laws.FnExactDiskCrash': WHATEVER THE INPUT: true; the input reads as it did. -/
def fnExactDiskCrashSpec : ChangeSpec := { name := "fnExactDiskCrash", fn := fun _ => fun
  | [d1, d2] => { results := [.lit (.bool true)], args := [d1, d2] }
  | _ => none }
def fnExactDiskCrashRow : OpenClaim := { program := "ytlpjpmfhkmddjaa", sum := "96b46395e177bfabe8f1a863e053eda4aa603eeda51fb2787f519e2ab89623df", func := "loop.example/s01594/laws.FnExactDiskCrash", spec := "fnExactDiskCrash", apart := false }
def FnExactDiskCrashSaid : Prop := fnExactDiskCrashRow.holds Try.pinned (OpenSpec.ofChange fnExactDiskCrashSpec)

/-- ITS FALSE NEIGHBOUR: 'it returns false'. Refute it at one input. -/
def fnExactDiskCrashWrong : ChangeSpec := { name := "fnExactDiskCrash", fn := fun _ => fun
  | [d1, d2] => { results := [.lit (.bool false)], args := [d1, d2] }
  | _ => none }
def FnExactDiskCrashWrongFalsely : Prop := fnExactDiskCrashRow.holds Try.pinned (OpenSpec.ofChange fnExactDiskCrashWrong)

/- THE SECOND FORM. 'bulk': how many values and letters a reading holds, each counted each time it is reached (what is shared counts as often as it is met; a slice's spare places count too). A statement '..UptoSaid' is the law's where the arguments, and the package variables that the reading takes, are together of bulk at most 1048576: NARROWER than '..Said'. Prove '..Said' where nothing that the law and all that it calls make is longer than what came in: it says more and counts as full. Else prove '..UptoSaid'. A law counts once. -/
mutual
def uptoBulk {H : Type} : DataW H → Nat
  | .lit (.string bytes) => bytes.length + 1
  | .lit _ => 1
  | .nil => 1
  | .ptr d => uptoBulk d + 1
  | .slice elems spare => uptoBulkAll elems + uptoBulkAll spare + 1
  | .agg parts => uptoBulkAll parts + 1
  | .iface _ d => uptoBulk d + 1
  | .map entries => uptoBulkEntries entries + 1
  | .held _ => 1
def uptoBulkAll {H : Type} : List (DataW H) → Nat
  | [] => 0
  | d :: r => uptoBulk d + uptoBulkAll r
def uptoBulkEntries {H : Type} : List (Lit × DataW H) → Nat
  | [] => 0
  | x :: r => uptoBulkEntry x + uptoBulkEntries r
def uptoBulkEntry {H : Type} : Lit × DataW H → Nat
  | (.string bytes, d) => bytes.length + uptoBulk d + 1
  | (_, d) => uptoBulk d + 1
 end
def uptoSmall : (H : Type) → List (DataW H) → Bool := fun _ ds => decide (uptoBulkAll ds ≤ 1048576)
def OpenSpec.upto (s : _root_.Go.ChangeSpec) : _root_.Go.OpenSpec := { _root_.Go.OpenSpec.ofChange s with cond := some uptoSmall }

/-- 'laws.FnTornSuper', WHERE WHAT IT READS IS OF BULK AT MOST 1048576: true; the input reads as it did. -/
def fnTornSuperUptoRow : OpenClaim := { program := "ytlpjpmfhkmddjaa", sum := "96b46395e177bfabe8f1a863e053eda4aa603eeda51fb2787f519e2ab89623df", func := "loop.example/s01594/laws.FnTornSuper", spec := "fnTornSuper", unfollowed := true, recurses := true, apart := false, narrowed := true }
def FnTornSuperUptoSaid : Prop := fnTornSuperUptoRow.holds Try.pinned (OpenSpec.upto fnTornSuperSpec)

/-- 'laws.FnExactDecodeSuper', WHERE WHAT IT READS IS OF BULK AT MOST 1048576: true; the input reads as it did. -/
def fnExactDecodeSuperUptoRow : OpenClaim := { program := "ytlpjpmfhkmddjaa", sum := "96b46395e177bfabe8f1a863e053eda4aa603eeda51fb2787f519e2ab89623df", func := "loop.example/s01594/laws.FnExactDecodeSuper", spec := "fnExactDecodeSuper", unfollowed := true, recurses := true, apart := false, narrowed := true }
def FnExactDecodeSuperUptoSaid : Prop := fnExactDecodeSuperUptoRow.holds Try.pinned (OpenSpec.upto fnExactDecodeSuperSpec)

/-- 'laws.FnExactDiskRead', WHERE WHAT IT READS IS OF BULK AT MOST 1048576: true; the input reads as it did. -/
def fnExactDiskReadUptoRow : OpenClaim := { program := "ytlpjpmfhkmddjaa", sum := "96b46395e177bfabe8f1a863e053eda4aa603eeda51fb2787f519e2ab89623df", func := "loop.example/s01594/laws.FnExactDiskRead", spec := "fnExactDiskRead", apart := false, narrowed := true }
def FnExactDiskReadUptoSaid : Prop := fnExactDiskReadUptoRow.holds Try.pinned (OpenSpec.upto fnExactDiskReadSpec)

/-- 'laws.FnExactDiskWrite', WHERE WHAT IT READS IS OF BULK AT MOST 1048576: true; the input reads as it did. -/
def fnExactDiskWriteUptoRow : OpenClaim := { program := "ytlpjpmfhkmddjaa", sum := "96b46395e177bfabe8f1a863e053eda4aa603eeda51fb2787f519e2ab89623df", func := "loop.example/s01594/laws.FnExactDiskWrite", spec := "fnExactDiskWrite", apart := false, narrowed := true }
def FnExactDiskWriteUptoSaid : Prop := fnExactDiskWriteUptoRow.holds Try.pinned (OpenSpec.upto fnExactDiskWriteSpec)

/-- 'laws.FnExactDiskSync', WHERE WHAT IT READS IS OF BULK AT MOST 1048576: true; the input reads as it did. -/
def fnExactDiskSyncUptoRow : OpenClaim := { program := "ytlpjpmfhkmddjaa", sum := "96b46395e177bfabe8f1a863e053eda4aa603eeda51fb2787f519e2ab89623df", func := "loop.example/s01594/laws.FnExactDiskSync", spec := "fnExactDiskSync", unfollowed := true, recurses := true, apart := false, narrowed := true }
def FnExactDiskSyncUptoSaid : Prop := fnExactDiskSyncUptoRow.holds Try.pinned (OpenSpec.upto fnExactDiskSyncSpec)

/-- 'laws.FnExactAreaBytes', WHERE WHAT IT READS IS OF BULK AT MOST 1048576: true; the input reads as it did. -/
def fnExactAreaBytesUptoRow : OpenClaim := { program := "ytlpjpmfhkmddjaa", sum := "96b46395e177bfabe8f1a863e053eda4aa603eeda51fb2787f519e2ab89623df", func := "loop.example/s01594/laws.FnExactAreaBytes", spec := "fnExactAreaBytes", apart := false, narrowed := true }
def FnExactAreaBytesUptoSaid : Prop := fnExactAreaBytesUptoRow.holds Try.pinned (OpenSpec.upto fnExactAreaBytesSpec)

/-- 'laws.FnExactDiskCrash', WHERE WHAT IT READS IS OF BULK AT MOST 1048576: true; the input reads as it did. -/
def fnExactDiskCrashUptoRow : OpenClaim := { program := "ytlpjpmfhkmddjaa", sum := "96b46395e177bfabe8f1a863e053eda4aa603eeda51fb2787f519e2ab89623df", func := "loop.example/s01594/laws.FnExactDiskCrash", spec := "fnExactDiskCrash", apart := false, narrowed := true }
def FnExactDiskCrashUptoSaid : Prop := fnExactDiskCrashUptoRow.holds Try.pinned (OpenSpec.upto fnExactDiskCrashSpec)

end Rows
end Go.Proofs.Ytlpjpmfhkmddjaa
