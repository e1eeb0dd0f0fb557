/-
  No cell of these rows narrows 'for every input' (looked for: loops, veiled, ifaces, maps, wideKeys, modest, calm, conditions, laid).
  DERIVED. THE GIVEN ROWS OF THIS SEAT. 10 by the template 'for every input the law returns true; each argument reads behind the call as it read before'; 0 by the template 'total and deterministic' (their statements: YtmjfoickgcapmaaTotals.lean).
  GIVEN WITH THE SEED: the statements are not yours to turn. If you find one false, say at which input.
  Laid BY PROGRAM, IN A SANDBOX (cutbox-rows.mjs): the forced cells as the released guide's own fill.sh prints them over the translation 0b3afff3f9822a3a… (all of the seat's roots in one cut). By AI agents, Wed Nov 11 2026. No macro, syntax, notation, axiom, sorry.
-/
import Derived.Test.YtmjfoickgcapmaaChecked
import GoSem.Claim
import GoSem.ClaimJoined
import GoSem.ClaimMapViews
import Derived.JoinedTies
import Derived.KernelRfl
namespace Go.Proofs.Ytmjfoickgcapmaa
/- THE CELL 'sum', in the pinned program and in every row, IS THE sha256 OF THE DUMP (.gsa) THAT YtmjfoickgcapmaaProg.lean LOADS. Nothing in Lean hashes anything: it is a label: what it is worth is what the hold of that sum in a sandbox is worth. -/
noncomputable def Try.pinned : Pinned := { name := "ytmjfoickgcapmaa", sum := "0b3afff3f9822a3a8e1cde3f1f5810dacff22f283e48dd1d47ba4e60776d0ae8", checked := Try.checked }
namespace Rows
def none {H : Type} : Left H := { results := [], args := [] }

/-- 'laws.FnExactConstants': WHATEVER THE INPUT: true; the input reads as it did. -/
def fnExactConstantsSpec : ChangeSpec := { name := "fnExactConstants", fn := fun _ => fun
  | [] => { results := [.lit (.bool true)], args := [] }
  | _ => none }
def fnExactConstantsRow : OpenClaim := { program := "ytmjfoickgcapmaa", sum := "0b3afff3f9822a3a8e1cde3f1f5810dacff22f283e48dd1d47ba4e60776d0ae8", func := "loop.example/s01594/laws.FnExactConstants", spec := "fnExactConstants", apart := false }
def FnExactConstantsSaid : Prop := fnExactConstantsRow.holds Try.pinned (OpenSpec.ofChange fnExactConstantsSpec)

/-- ITS FALSE NEIGHBOUR: 'it returns false'. Refute it at one input. -/
def fnExactConstantsWrong : ChangeSpec := { name := "fnExactConstants", fn := fun _ => fun
  | [] => { results := [.lit (.bool false)], args := [] }
  | _ => none }
def FnExactConstantsWrongFalsely : Prop := fnExactConstantsRow.holds Try.pinned (OpenSpec.ofChange fnExactConstantsWrong)

/-- 'laws.FnTornLog': WHATEVER THE INPUT: true; the input reads as it did. -/
def fnTornLogSpec : ChangeSpec := { name := "fnTornLog", fn := fun _ => fun
  | [d1, d2] => { results := [.lit (.bool true)], args := [d1, d2] }
  | _ => none }
def fnTornLogRow : OpenClaim := { program := "ytmjfoickgcapmaa", sum := "0b3afff3f9822a3a8e1cde3f1f5810dacff22f283e48dd1d47ba4e60776d0ae8", func := "loop.example/s01594/laws.FnTornLog", spec := "fnTornLog", unfollowed := true, recurses := true, apart := false }
def FnTornLogSaid : Prop := fnTornLogRow.holds Try.pinned (OpenSpec.ofChange fnTornLogSpec)

/-- ITS FALSE NEIGHBOUR: 'it returns false'. Refute it at one input. -/
def fnTornLogWrong : ChangeSpec := { name := "fnTornLog", fn := fun _ => fun
  | [d1, d2] => { results := [.lit (.bool false)], args := [d1, d2] }
  | _ => none }
def FnTornLogWrongFalsely : Prop := fnTornLogRow.holds Try.pinned (OpenSpec.ofChange fnTornLogWrong)

/-- 'laws.FnExactPack': WHATEVER THE INPUT: true; the input reads as it did. -/
def fnExactPackSpec : ChangeSpec := { name := "fnExactPack", fn := fun _ => fun
  | [d] => { results := [.lit (.bool true)], args := [d] }
  | _ => none }
def fnExactPackRow : OpenClaim := { program := "ytmjfoickgcapmaa", sum := "0b3afff3f9822a3a8e1cde3f1f5810dacff22f283e48dd1d47ba4e60776d0ae8", func := "loop.example/s01594/laws.FnExactPack", spec := "fnExactPack", unfollowed := true, recurses := true, apart := false }
def FnExactPackSaid : Prop := fnExactPackRow.holds Try.pinned (OpenSpec.ofChange fnExactPackSpec)

/-- ITS FALSE NEIGHBOUR: 'it returns false'. Refute it at one input. -/
def fnExactPackWrong : ChangeSpec := { name := "fnExactPack", fn := fun _ => fun
  | [d] => { results := [.lit (.bool false)], args := [d] }
  | _ => none }
def FnExactPackWrongFalsely : Prop := fnExactPackRow.holds Try.pinned (OpenSpec.ofChange fnExactPackWrong)

/-- 'laws.FnExactFrame': WHATEVER THE INPUT: true; the input reads as it did. -/
def fnExactFrameSpec : ChangeSpec := { name := "fnExactFrame", fn := fun _ => fun
  | [d] => { results := [.lit (.bool true)], args := [d] }
  | _ => none }
def fnExactFrameRow : OpenClaim := { program := "ytmjfoickgcapmaa", sum := "0b3afff3f9822a3a8e1cde3f1f5810dacff22f283e48dd1d47ba4e60776d0ae8", func := "loop.example/s01594/laws.FnExactFrame", spec := "fnExactFrame", unfollowed := true, recurses := true, apart := false }
def FnExactFrameSaid : Prop := fnExactFrameRow.holds Try.pinned (OpenSpec.ofChange fnExactFrameSpec)

/-- ITS FALSE NEIGHBOUR: 'it returns false'. Refute it at one input. -/
def fnExactFrameWrong : ChangeSpec := { name := "fnExactFrame", fn := fun _ => fun
  | [d] => { results := [.lit (.bool false)], args := [d] }
  | _ => none }
def FnExactFrameWrongFalsely : Prop := fnExactFrameRow.holds Try.pinned (OpenSpec.ofChange fnExactFrameWrong)

/-- 'laws.FnExactNewDisk': WHATEVER THE INPUT: true; the input reads as it did. -/
def fnExactNewDiskSpec : ChangeSpec := { name := "fnExactNewDisk", fn := fun _ => fun
  | [d] => { results := [.lit (.bool true)], args := [d] }
  | _ => none }
def fnExactNewDiskRow : OpenClaim := { program := "ytmjfoickgcapmaa", sum := "0b3afff3f9822a3a8e1cde3f1f5810dacff22f283e48dd1d47ba4e60776d0ae8", func := "loop.example/s01594/laws.FnExactNewDisk", spec := "fnExactNewDisk", apart := false }
def FnExactNewDiskSaid : Prop := fnExactNewDiskRow.holds Try.pinned (OpenSpec.ofChange fnExactNewDiskSpec)

/-- ITS FALSE NEIGHBOUR: 'it returns false'. Refute it at one input. -/
def fnExactNewDiskWrong : ChangeSpec := { name := "fnExactNewDisk", fn := fun _ => fun
  | [d] => { results := [.lit (.bool false)], args := [d] }
  | _ => none }
def FnExactNewDiskWrongFalsely : Prop := fnExactNewDiskRow.holds Try.pinned (OpenSpec.ofChange fnExactNewDiskWrong)

/-- 'laws.FnExactNewTree': WHATEVER THE INPUT: true; the input reads as it did. -/
def fnExactNewTreeSpec : ChangeSpec := { name := "fnExactNewTree", fn := fun _ => fun
  | [] => { results := [.lit (.bool true)], args := [] }
  | _ => none }
def fnExactNewTreeRow : OpenClaim := { program := "ytmjfoickgcapmaa", sum := "0b3afff3f9822a3a8e1cde3f1f5810dacff22f283e48dd1d47ba4e60776d0ae8", func := "loop.example/s01594/laws.FnExactNewTree", spec := "fnExactNewTree", apart := false }
def FnExactNewTreeSaid : Prop := fnExactNewTreeRow.holds Try.pinned (OpenSpec.ofChange fnExactNewTreeSpec)

/-- ITS FALSE NEIGHBOUR: 'it returns false'. Refute it at one input. -/
def fnExactNewTreeWrong : ChangeSpec := { name := "fnExactNewTree", fn := fun _ => fun
  | [] => { results := [.lit (.bool false)], args := [] }
  | _ => none }
def FnExactNewTreeWrongFalsely : Prop := fnExactNewTreeRow.holds Try.pinned (OpenSpec.ofChange fnExactNewTreeWrong)

/-- 'laws.FnExactUnpack': WHATEVER THE INPUT: true; the input reads as it did. -/
def fnExactUnpackSpec : ChangeSpec := { name := "fnExactUnpack", fn := fun _ => fun
  | [d] => { results := [.lit (.bool true)], args := [d] }
  | _ => none }
def fnExactUnpackRow : OpenClaim := { program := "ytmjfoickgcapmaa", sum := "0b3afff3f9822a3a8e1cde3f1f5810dacff22f283e48dd1d47ba4e60776d0ae8", func := "loop.example/s01594/laws.FnExactUnpack", spec := "fnExactUnpack", unfollowed := true, recurses := true, apart := false }
def FnExactUnpackSaid : Prop := fnExactUnpackRow.holds Try.pinned (OpenSpec.ofChange fnExactUnpackSpec)

/-- ITS FALSE NEIGHBOUR: 'it returns false'. Refute it at one input. -/
def fnExactUnpackWrong : ChangeSpec := { name := "fnExactUnpack", fn := fun _ => fun
  | [d] => { results := [.lit (.bool false)], args := [d] }
  | _ => none }
def FnExactUnpackWrongFalsely : Prop := fnExactUnpackRow.holds Try.pinned (OpenSpec.ofChange fnExactUnpackWrong)

/-- 'laws.FnExactValidDisk': WHATEVER THE INPUT: true; the input reads as it did. -/
def fnExactValidDiskSpec : ChangeSpec := { name := "fnExactValidDisk", fn := fun _ => fun
  | [d] => { results := [.lit (.bool true)], args := [d] }
  | _ => none }
def fnExactValidDiskRow : OpenClaim := { program := "ytmjfoickgcapmaa", sum := "0b3afff3f9822a3a8e1cde3f1f5810dacff22f283e48dd1d47ba4e60776d0ae8", func := "loop.example/s01594/laws.FnExactValidDisk", spec := "fnExactValidDisk", apart := false }
def FnExactValidDiskSaid : Prop := fnExactValidDiskRow.holds Try.pinned (OpenSpec.ofChange fnExactValidDiskSpec)

/-- ITS FALSE NEIGHBOUR: 'it returns false'. Refute it at one input. -/
def fnExactValidDiskWrong : ChangeSpec := { name := "fnExactValidDisk", fn := fun _ => fun
  | [d] => { results := [.lit (.bool false)], args := [d] }
  | _ => none }
def FnExactValidDiskWrongFalsely : Prop := fnExactValidDiskRow.holds Try.pinned (OpenSpec.ofChange fnExactValidDiskWrong)

/-- 'laws.FnExactScanFrames': WHATEVER THE INPUT: true; the input reads as it did. -/
def fnExactScanFramesSpec : ChangeSpec := { name := "fnExactScanFrames", fn := fun _ => fun
  | [d] => { results := [.lit (.bool true)], args := [d] }
  | _ => none }
def fnExactScanFramesRow : OpenClaim := { program := "ytmjfoickgcapmaa", sum := "0b3afff3f9822a3a8e1cde3f1f5810dacff22f283e48dd1d47ba4e60776d0ae8", func := "loop.example/s01594/laws.FnExactScanFrames", spec := "fnExactScanFrames", unfollowed := true, recurses := true, apart := false }
def FnExactScanFramesSaid : Prop := fnExactScanFramesRow.holds Try.pinned (OpenSpec.ofChange fnExactScanFramesSpec)

/-- ITS FALSE NEIGHBOUR: 'it returns false'. Refute it at one input. -/
def fnExactScanFramesWrong : ChangeSpec := { name := "fnExactScanFrames", fn := fun _ => fun
  | [d] => { results := [.lit (.bool false)], args := [d] }
  | _ => none }
def FnExactScanFramesWrongFalsely : Prop := fnExactScanFramesRow.holds Try.pinned (OpenSpec.ofChange fnExactScanFramesWrong)

/-- 'laws.FnExactEncodeSuper': WHATEVER THE INPUT: true; the input reads as it did. -/
def fnExactEncodeSuperSpec : ChangeSpec := { name := "fnExactEncodeSuper", fn := fun _ => fun
  | [d] => { results := [.lit (.bool true)], args := [d] }
  | _ => none }
def fnExactEncodeSuperRow : OpenClaim := { program := "ytmjfoickgcapmaa", sum := "0b3afff3f9822a3a8e1cde3f1f5810dacff22f283e48dd1d47ba4e60776d0ae8", func := "loop.example/s01594/laws.FnExactEncodeSuper", spec := "fnExactEncodeSuper", recurses := true, apart := false }
def FnExactEncodeSuperSaid : Prop := fnExactEncodeSuperRow.holds Try.pinned (OpenSpec.ofChange fnExactEncodeSuperSpec)

/-- ITS FALSE NEIGHBOUR: 'it returns false'. Refute it at one input. -/
def fnExactEncodeSuperWrong : ChangeSpec := { name := "fnExactEncodeSuper", fn := fun _ => fun
  | [d] => { results := [.lit (.bool false)], args := [d] }
  | _ => none }
def FnExactEncodeSuperWrongFalsely : Prop := fnExactEncodeSuperRow.holds Try.pinned (OpenSpec.ofChange fnExactEncodeSuperWrong)

/- THE SECOND FORM. 'bulk': how many values and letters a reading holds, each counted each time it is reached (what is shared counts as often as it is met; a slice's spare places count too). A statement '..UptoSaid' is the law's where the arguments, and the package variables that the reading takes, are together of bulk at most 1048576: NARROWER than '..Said'. Prove '..Said' where nothing that the law and all that it calls make is longer than what came in: it says more and counts as full. Else prove '..UptoSaid'. A law counts once. -/
mutual
def uptoBulk {H : Type} : DataW H → Nat
  | .lit (.string bytes) => bytes.length + 1
  | .lit _ => 1
  | .nil => 1
  | .ptr d => uptoBulk d + 1
  | .slice elems spare => uptoBulkAll elems + uptoBulkAll spare + 1
  | .agg parts => uptoBulkAll parts + 1
  | .iface _ d => uptoBulk d + 1
  | .map entries => uptoBulkEntries entries + 1
  | .held _ => 1
def uptoBulkAll {H : Type} : List (DataW H) → Nat
  | [] => 0
  | d :: r => uptoBulk d + uptoBulkAll r
def uptoBulkEntries {H : Type} : List (Lit × DataW H) → Nat
  | [] => 0
  | x :: r => uptoBulkEntry x + uptoBulkEntries r
def uptoBulkEntry {H : Type} : Lit × DataW H → Nat
  | (.string bytes, d) => bytes.length + uptoBulk d + 1
  | (_, d) => uptoBulk d + 1
 end
def uptoSmall : (H : Type) → List (DataW H) → Bool := fun _ ds => decide (uptoBulkAll ds ≤ 1048576)
def OpenSpec.upto (s : _root_.Go.ChangeSpec) : _root_.Go.OpenSpec := { _root_.Go.OpenSpec.ofChange s with cond := some uptoSmall }

/-- 'laws.FnExactConstants', WHERE WHAT IT READS IS OF BULK AT MOST 1048576: true; the input reads as it did. -/
def fnExactConstantsUptoRow : OpenClaim := { program := "ytmjfoickgcapmaa", sum := "0b3afff3f9822a3a8e1cde3f1f5810dacff22f283e48dd1d47ba4e60776d0ae8", func := "loop.example/s01594/laws.FnExactConstants", spec := "fnExactConstants", apart := false, narrowed := true }
def FnExactConstantsUptoSaid : Prop := fnExactConstantsUptoRow.holds Try.pinned (OpenSpec.upto fnExactConstantsSpec)

/-- 'laws.FnTornLog', WHERE WHAT IT READS IS OF BULK AT MOST 1048576: true; the input reads as it did. -/
def fnTornLogUptoRow : OpenClaim := { program := "ytmjfoickgcapmaa", sum := "0b3afff3f9822a3a8e1cde3f1f5810dacff22f283e48dd1d47ba4e60776d0ae8", func := "loop.example/s01594/laws.FnTornLog", spec := "fnTornLog", unfollowed := true, recurses := true, apart := false, narrowed := true }
def FnTornLogUptoSaid : Prop := fnTornLogUptoRow.holds Try.pinned (OpenSpec.upto fnTornLogSpec)

/-- 'laws.FnExactPack', WHERE WHAT IT READS IS OF BULK AT MOST 1048576: true; the input reads as it did. -/
def fnExactPackUptoRow : OpenClaim := { program := "ytmjfoickgcapmaa", sum := "0b3afff3f9822a3a8e1cde3f1f5810dacff22f283e48dd1d47ba4e60776d0ae8", func := "loop.example/s01594/laws.FnExactPack", spec := "fnExactPack", unfollowed := true, recurses := true, apart := false, narrowed := true }
def FnExactPackUptoSaid : Prop := fnExactPackUptoRow.holds Try.pinned (OpenSpec.upto fnExactPackSpec)

/-- 'laws.FnExactFrame', WHERE WHAT IT READS IS OF BULK AT MOST 1048576: true; the input reads as it did. -/
def fnExactFrameUptoRow : OpenClaim := { program := "ytmjfoickgcapmaa", sum := "0b3afff3f9822a3a8e1cde3f1f5810dacff22f283e48dd1d47ba4e60776d0ae8", func := "loop.example/s01594/laws.FnExactFrame", spec := "fnExactFrame", unfollowed := true, recurses := true, apart := false, narrowed := true }
def FnExactFrameUptoSaid : Prop := fnExactFrameUptoRow.holds Try.pinned (OpenSpec.upto fnExactFrameSpec)

/-- 'laws.FnExactNewDisk', WHERE WHAT IT READS IS OF BULK AT MOST 1048576: true; the input reads as it did. -/
def fnExactNewDiskUptoRow : OpenClaim := { program := "ytmjfoickgcapmaa", sum := "0b3afff3f9822a3a8e1cde3f1f5810dacff22f283e48dd1d47ba4e60776d0ae8", func := "loop.example/s01594/laws.FnExactNewDisk", spec := "fnExactNewDisk", apart := false, narrowed := true }
def FnExactNewDiskUptoSaid : Prop := fnExactNewDiskUptoRow.holds Try.pinned (OpenSpec.upto fnExactNewDiskSpec)

/-- 'laws.FnExactNewTree', WHERE WHAT IT READS IS OF BULK AT MOST 1048576: true; the input reads as it did. -/
def fnExactNewTreeUptoRow : OpenClaim := { program := "ytmjfoickgcapmaa", sum := "0b3afff3f9822a3a8e1cde3f1f5810dacff22f283e48dd1d47ba4e60776d0ae8", func := "loop.example/s01594/laws.FnExactNewTree", spec := "fnExactNewTree", apart := false, narrowed := true }
def FnExactNewTreeUptoSaid : Prop := fnExactNewTreeUptoRow.holds Try.pinned (OpenSpec.upto fnExactNewTreeSpec)

/-- 'laws.FnExactUnpack', WHERE WHAT IT READS IS OF BULK AT MOST 1048576: true; the input reads as it did. -/
def fnExactUnpackUptoRow : OpenClaim := { program := "ytmjfoickgcapmaa", sum := "0b3afff3f9822a3a8e1cde3f1f5810dacff22f283e48dd1d47ba4e60776d0ae8", func := "loop.example/s01594/laws.FnExactUnpack", spec := "fnExactUnpack", unfollowed := true, recurses := true, apart := false, narrowed := true }
def FnExactUnpackUptoSaid : Prop := fnExactUnpackUptoRow.holds Try.pinned (OpenSpec.upto fnExactUnpackSpec)

/-- 'laws.FnExactValidDisk', WHERE WHAT IT READS IS OF BULK AT MOST 1048576: true; the input reads as it did. -/
def fnExactValidDiskUptoRow : OpenClaim := { program := "ytmjfoickgcapmaa", sum := "0b3afff3f9822a3a8e1cde3f1f5810dacff22f283e48dd1d47ba4e60776d0ae8", func := "loop.example/s01594/laws.FnExactValidDisk", spec := "fnExactValidDisk", apart := false, narrowed := true }
def FnExactValidDiskUptoSaid : Prop := fnExactValidDiskUptoRow.holds Try.pinned (OpenSpec.upto fnExactValidDiskSpec)

/-- 'laws.FnExactScanFrames', WHERE WHAT IT READS IS OF BULK AT MOST 1048576: true; the input reads as it did. -/
def fnExactScanFramesUptoRow : OpenClaim := { program := "ytmjfoickgcapmaa", sum := "0b3afff3f9822a3a8e1cde3f1f5810dacff22f283e48dd1d47ba4e60776d0ae8", func := "loop.example/s01594/laws.FnExactScanFrames", spec := "fnExactScanFrames", unfollowed := true, recurses := true, apart := false, narrowed := true }
def FnExactScanFramesUptoSaid : Prop := fnExactScanFramesUptoRow.holds Try.pinned (OpenSpec.upto fnExactScanFramesSpec)

/-- 'laws.FnExactEncodeSuper', WHERE WHAT IT READS IS OF BULK AT MOST 1048576: true; the input reads as it did. -/
def fnExactEncodeSuperUptoRow : OpenClaim := { program := "ytmjfoickgcapmaa", sum := "0b3afff3f9822a3a8e1cde3f1f5810dacff22f283e48dd1d47ba4e60776d0ae8", func := "loop.example/s01594/laws.FnExactEncodeSuper", spec := "fnExactEncodeSuper", recurses := true, apart := false, narrowed := true }
def FnExactEncodeSuperUptoSaid : Prop := fnExactEncodeSuperUptoRow.holds Try.pinned (OpenSpec.upto fnExactEncodeSuperSpec)

end Rows
end Go.Proofs.Ytmjfoickgcapmaa
