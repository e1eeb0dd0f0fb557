/-
  NARROWER THAN 'FOR EVERY INPUT', by the rows' own cells (each row's printed sentence says how): FnExactValidPath: laid · FnExactValidTree: laid · FnExactValidTxn: laid · FnExactEncodeTree: laid · FnExactEncodeTxn: laid.
  DERIVED. THE GIVEN ROWS OF THIS SEAT. 5 by the template 'for every input the law returns true; each argument reads behind the call as it read before'; 0 by the template 'total and deterministic' (their statements: YtlpjpmfhkmddjaaDoorTotals.lean).
  GIVEN WITH THE SEED: the statements are not yours to turn. If you find one false, say at which input.
  Laid BY PROGRAM, IN A SANDBOX (cutbox-rows.mjs): the forced cells as the released guide's own fill.sh prints them over the translation 0c6baa4234b4b41a… (all of the seat's roots in one cut). By AI agents, Wed Nov 11 2026. No macro, syntax, notation, axiom, sorry.
-/
import Derived.Test.YtlpjpmfhkmddjaaDoorChecked
import GoSem.PinnedTables
import GoSem.Claim
import GoSem.ClaimJoined
import GoSem.ClaimMapViews
import Derived.JoinedTies
import Derived.KernelRfl
namespace Go.Proofs.YtlpjpmfhkmddjaaDoor
/- THE CELL 'sum', in the pinned program and in every row, IS THE sha256 OF THE DUMP (.gsa) THAT YtlpjpmfhkmddjaaDoorProg.lean LOADS. Nothing in Lean hashes anything: it is a label: what it is worth is what the hold of that sum in a sandbox is worth. -/
noncomputable def Tryd.pinned : Pinned := { name := "ytlpjpmfhkmddjaadoor", sum := "0c6baa4234b4b41a346aec8ea6427592cab4febd41c7b239e4197eae3b6266b5", checked := Tryd.checked }
namespace Rows
def none {H : Type} : Left H := { results := [], args := [] }

/- WHAT THE LISTED PACKAGE-LEVEL VARIABLES READ AS WHEN THE CALL BEGINS. Each datum BY PROGRAM (the guide's laid-datum.mjs) off the statement by which the dump's own 'gosem.cut.vars' lays the variable. In a bare row this is a premise. The card (YtlpjpmfhkmddjaaDoorCards.lean) ties it to the program's text. -/
def laid_unicode_utf8_acceptRanges {H : Type} : DataW H := .agg [.agg [.lit (.int .u8 128), .lit (.int .u8 191)], .agg [.lit (.int .u8 160), .lit (.int .u8 191)], .agg [.lit (.int .u8 128), .lit (.int .u8 159)], .agg [.lit (.int .u8 144), .lit (.int .u8 191)], .agg [.lit (.int .u8 128), .lit (.int .u8 143)], .agg [.lit (.int .u8 0), .lit (.int .u8 0)], .agg [.lit (.int .u8 0), .lit (.int .u8 0)], .agg [.lit (.int .u8 0), .lit (.int .u8 0)], .agg [.lit (.int .u8 0), .lit (.int .u8 0)], .agg [.lit (.int .u8 0), .lit (.int .u8 0)], .agg [.lit (.int .u8 0), .lit (.int .u8 0)], .agg [.lit (.int .u8 0), .lit (.int .u8 0)], .agg [.lit (.int .u8 0), .lit (.int .u8 0)], .agg [.lit (.int .u8 0), .lit (.int .u8 0)], .agg [.lit (.int .u8 0), .lit (.int .u8 0)], .agg [.lit (.int .u8 0), .lit (.int .u8 0)]]
/-- One of Go's own tables, pinned by name: the form's constant. -/
def laid_unicode_utf8_first : DataW Unit := Go.Pinned.utf8First

/-- 'laws.FnExactValidPath': WHATEVER THE INPUT: true; the input reads as it did. -/
def fnExactValidPathSpec : ChangeSpec := { name := "fnExactValidPath", fn := fun _ => fun
  | [d] => { results := [.lit (.bool true)], args := [d] }
  | _ => none }
def fnExactValidPathRow : OpenClaim := { program := "ytlpjpmfhkmddjaadoor", sum := "0c6baa4234b4b41a346aec8ea6427592cab4febd41c7b239e4197eae3b6266b5", func := "loop.example/s01594/laws.FnExactValidPath", spec := "fnExactValidPath", inPlace := ["internal/bytealg.CountString", "internal/bytealg.IndexByteString", "internal/bytealg.IndexString"], named := ["unicode/utf8.first", "unicode/utf8.acceptRanges", "internal/bytealg.MaxLen"], apart := false, laid := [("unicode/utf8.acceptRanges", laid_unicode_utf8_acceptRanges), ("unicode/utf8.first", laid_unicode_utf8_first)] }
def FnExactValidPathSaid : Prop := fnExactValidPathRow.holds Tryd.pinned (OpenSpec.ofChange fnExactValidPathSpec)

/-- ITS FALSE NEIGHBOUR: 'it returns false'. Refute it at one input. -/
def fnExactValidPathWrong : ChangeSpec := { name := "fnExactValidPath", fn := fun _ => fun
  | [d] => { results := [.lit (.bool false)], args := [d] }
  | _ => none }
def FnExactValidPathWrongFalsely : Prop := fnExactValidPathRow.holds Tryd.pinned (OpenSpec.ofChange fnExactValidPathWrong)

/-- 'laws.FnExactValidTree': WHATEVER THE INPUT: true; the input reads as it did. -/
def fnExactValidTreeSpec : ChangeSpec := { name := "fnExactValidTree", fn := fun _ => fun
  | [d] => { results := [.lit (.bool true)], args := [d] }
  | _ => none }
def fnExactValidTreeRow : OpenClaim := { program := "ytlpjpmfhkmddjaadoor", sum := "0c6baa4234b4b41a346aec8ea6427592cab4febd41c7b239e4197eae3b6266b5", func := "loop.example/s01594/laws.FnExactValidTree", spec := "fnExactValidTree", inPlace := ["internal/bytealg.CountString", "internal/bytealg.IndexByteString", "internal/bytealg.IndexString"], named := ["unicode/utf8.first", "unicode/utf8.acceptRanges", "internal/bytealg.MaxLen"], apart := false, laid := [("unicode/utf8.acceptRanges", laid_unicode_utf8_acceptRanges), ("unicode/utf8.first", laid_unicode_utf8_first)] }
def FnExactValidTreeSaid : Prop := fnExactValidTreeRow.holds Tryd.pinned (OpenSpec.ofChange fnExactValidTreeSpec)

/-- ITS FALSE NEIGHBOUR: 'it returns false'. Refute it at one input. -/
def fnExactValidTreeWrong : ChangeSpec := { name := "fnExactValidTree", fn := fun _ => fun
  | [d] => { results := [.lit (.bool false)], args := [d] }
  | _ => none }
def FnExactValidTreeWrongFalsely : Prop := fnExactValidTreeRow.holds Tryd.pinned (OpenSpec.ofChange fnExactValidTreeWrong)

/-- 'laws.FnExactValidTxn': WHATEVER THE INPUT: true; the input reads as it did. -/
def fnExactValidTxnSpec : ChangeSpec := { name := "fnExactValidTxn", fn := fun _ => fun
  | [d] => { results := [.lit (.bool true)], args := [d] }
  | _ => none }
def fnExactValidTxnRow : OpenClaim := { program := "ytlpjpmfhkmddjaadoor", sum := "0c6baa4234b4b41a346aec8ea6427592cab4febd41c7b239e4197eae3b6266b5", func := "loop.example/s01594/laws.FnExactValidTxn", spec := "fnExactValidTxn", inPlace := ["internal/bytealg.CountString", "internal/bytealg.IndexByteString", "internal/bytealg.IndexString"], named := ["unicode/utf8.first", "unicode/utf8.acceptRanges", "internal/bytealg.MaxLen"], apart := false, laid := [("unicode/utf8.acceptRanges", laid_unicode_utf8_acceptRanges), ("unicode/utf8.first", laid_unicode_utf8_first)] }
def FnExactValidTxnSaid : Prop := fnExactValidTxnRow.holds Tryd.pinned (OpenSpec.ofChange fnExactValidTxnSpec)

/-- ITS FALSE NEIGHBOUR: 'it returns false'. Refute it at one input. -/
def fnExactValidTxnWrong : ChangeSpec := { name := "fnExactValidTxn", fn := fun _ => fun
  | [d] => { results := [.lit (.bool false)], args := [d] }
  | _ => none }
def FnExactValidTxnWrongFalsely : Prop := fnExactValidTxnRow.holds Tryd.pinned (OpenSpec.ofChange fnExactValidTxnWrong)

/-- 'laws.FnExactEncodeTree': WHATEVER THE INPUT: true; the input reads as it did. -/
def fnExactEncodeTreeSpec : ChangeSpec := { name := "fnExactEncodeTree", fn := fun _ => fun
  | [d] => { results := [.lit (.bool true)], args := [d] }
  | _ => none }
def fnExactEncodeTreeRow : OpenClaim := { program := "ytlpjpmfhkmddjaadoor", sum := "0c6baa4234b4b41a346aec8ea6427592cab4febd41c7b239e4197eae3b6266b5", func := "loop.example/s01594/laws.FnExactEncodeTree", spec := "fnExactEncodeTree", inPlace := ["internal/bytealg.CountString", "internal/bytealg.IndexByteString", "internal/bytealg.IndexString"], recurses := true, named := ["unicode/utf8.first", "unicode/utf8.acceptRanges", "internal/bytealg.MaxLen"], apart := false, laid := [("unicode/utf8.acceptRanges", laid_unicode_utf8_acceptRanges), ("unicode/utf8.first", laid_unicode_utf8_first)] }
def FnExactEncodeTreeSaid : Prop := fnExactEncodeTreeRow.holds Tryd.pinned (OpenSpec.ofChange fnExactEncodeTreeSpec)

/-- ITS FALSE NEIGHBOUR: 'it returns false'. Refute it at one input. -/
def fnExactEncodeTreeWrong : ChangeSpec := { name := "fnExactEncodeTree", fn := fun _ => fun
  | [d] => { results := [.lit (.bool false)], args := [d] }
  | _ => none }
def FnExactEncodeTreeWrongFalsely : Prop := fnExactEncodeTreeRow.holds Tryd.pinned (OpenSpec.ofChange fnExactEncodeTreeWrong)

/-- 'laws.FnExactEncodeTxn': WHATEVER THE INPUT: true; the input reads as it did. -/
def fnExactEncodeTxnSpec : ChangeSpec := { name := "fnExactEncodeTxn", fn := fun _ => fun
  | [d] => { results := [.lit (.bool true)], args := [d] }
  | _ => none }
def fnExactEncodeTxnRow : OpenClaim := { program := "ytlpjpmfhkmddjaadoor", sum := "0c6baa4234b4b41a346aec8ea6427592cab4febd41c7b239e4197eae3b6266b5", func := "loop.example/s01594/laws.FnExactEncodeTxn", spec := "fnExactEncodeTxn", inPlace := ["internal/bytealg.CountString", "internal/bytealg.IndexByteString", "internal/bytealg.IndexString"], recurses := true, named := ["unicode/utf8.first", "unicode/utf8.acceptRanges", "internal/bytealg.MaxLen"], apart := false, laid := [("unicode/utf8.acceptRanges", laid_unicode_utf8_acceptRanges), ("unicode/utf8.first", laid_unicode_utf8_first)] }
def FnExactEncodeTxnSaid : Prop := fnExactEncodeTxnRow.holds Tryd.pinned (OpenSpec.ofChange fnExactEncodeTxnSpec)

/-- ITS FALSE NEIGHBOUR: 'it returns false'. Refute it at one input. -/
def fnExactEncodeTxnWrong : ChangeSpec := { name := "fnExactEncodeTxn", fn := fun _ => fun
  | [d] => { results := [.lit (.bool false)], args := [d] }
  | _ => none }
def FnExactEncodeTxnWrongFalsely : Prop := fnExactEncodeTxnRow.holds Tryd.pinned (OpenSpec.ofChange fnExactEncodeTxnWrong)

/- THE SECOND FORM. 'bulk': how many values and letters a reading holds, each counted each time it is reached (what is shared counts as often as it is met; a slice's spare places count too). A statement '..UptoSaid' is the law's where the arguments, and the package variables that the reading takes, are together of bulk at most 1048576: NARROWER than '..Said'. Prove '..Said' where nothing that the law and all that it calls make is longer than what came in: it says more and counts as full. Else prove '..UptoSaid'. A law counts once. -/
mutual
def uptoBulk {H : Type} : DataW H → Nat
  | .lit (.string bytes) => bytes.length + 1
  | .lit _ => 1
  | .nil => 1
  | .ptr d => uptoBulk d + 1
  | .slice elems spare => uptoBulkAll elems + uptoBulkAll spare + 1
  | .agg parts => uptoBulkAll parts + 1
  | .iface _ d => uptoBulk d + 1
  | .map entries => uptoBulkEntries entries + 1
  | .held _ => 1
def uptoBulkAll {H : Type} : List (DataW H) → Nat
  | [] => 0
  | d :: r => uptoBulk d + uptoBulkAll r
def uptoBulkEntries {H : Type} : List (Lit × DataW H) → Nat
  | [] => 0
  | x :: r => uptoBulkEntry x + uptoBulkEntries r
def uptoBulkEntry {H : Type} : Lit × DataW H → Nat
  | (.string bytes, d) => bytes.length + uptoBulk d + 1
  | (_, d) => uptoBulk d + 1
 end
def uptoSmall : (H : Type) → List (DataW H) → Bool := fun _ ds => decide (uptoBulkAll ds ≤ 1048576)
def OpenSpec.upto (s : _root_.Go.ChangeSpec) : _root_.Go.OpenSpec := { _root_.Go.OpenSpec.ofChange s with cond := some uptoSmall }

/-- 'laws.FnExactValidPath', WHERE WHAT IT READS IS OF BULK AT MOST 1048576: true; the input reads as it did. -/
def fnExactValidPathUptoRow : OpenClaim := { program := "ytlpjpmfhkmddjaadoor", sum := "0c6baa4234b4b41a346aec8ea6427592cab4febd41c7b239e4197eae3b6266b5", func := "loop.example/s01594/laws.FnExactValidPath", spec := "fnExactValidPath", inPlace := ["internal/bytealg.CountString", "internal/bytealg.IndexByteString", "internal/bytealg.IndexString"], named := ["unicode/utf8.first", "unicode/utf8.acceptRanges", "internal/bytealg.MaxLen"], apart := false, laid := [("unicode/utf8.acceptRanges", laid_unicode_utf8_acceptRanges), ("unicode/utf8.first", laid_unicode_utf8_first)], narrowed := true }
def FnExactValidPathUptoSaid : Prop := fnExactValidPathUptoRow.holds Tryd.pinned (OpenSpec.upto fnExactValidPathSpec)

/-- 'laws.FnExactValidTree', WHERE WHAT IT READS IS OF BULK AT MOST 1048576: true; the input reads as it did. -/
def fnExactValidTreeUptoRow : OpenClaim := { program := "ytlpjpmfhkmddjaadoor", sum := "0c6baa4234b4b41a346aec8ea6427592cab4febd41c7b239e4197eae3b6266b5", func := "loop.example/s01594/laws.FnExactValidTree", spec := "fnExactValidTree", inPlace := ["internal/bytealg.CountString", "internal/bytealg.IndexByteString", "internal/bytealg.IndexString"], named := ["unicode/utf8.first", "unicode/utf8.acceptRanges", "internal/bytealg.MaxLen"], apart := false, laid := [("unicode/utf8.acceptRanges", laid_unicode_utf8_acceptRanges), ("unicode/utf8.first", laid_unicode_utf8_first)], narrowed := true }
def FnExactValidTreeUptoSaid : Prop := fnExactValidTreeUptoRow.holds Tryd.pinned (OpenSpec.upto fnExactValidTreeSpec)

/-- 'laws.FnExactValidTxn', WHERE WHAT IT READS IS OF BULK AT MOST 1048576: true; the input reads as it did. -/
def fnExactValidTxnUptoRow : OpenClaim := { program := "ytlpjpmfhkmddjaadoor", sum := "0c6baa4234b4b41a346aec8ea6427592cab4febd41c7b239e4197eae3b6266b5", func := "loop.example/s01594/laws.FnExactValidTxn", spec := "fnExactValidTxn", inPlace := ["internal/bytealg.CountString", "internal/bytealg.IndexByteString", "internal/bytealg.IndexString"], named := ["unicode/utf8.first", "unicode/utf8.acceptRanges", "internal/bytealg.MaxLen"], apart := false, laid := [("unicode/utf8.acceptRanges", laid_unicode_utf8_acceptRanges), ("unicode/utf8.first", laid_unicode_utf8_first)], narrowed := true }
def FnExactValidTxnUptoSaid : Prop := fnExactValidTxnUptoRow.holds Tryd.pinned (OpenSpec.upto fnExactValidTxnSpec)

/-- 'laws.FnExactEncodeTree', WHERE WHAT IT READS IS OF BULK AT MOST 1048576: true; the input reads as it did. -/
def fnExactEncodeTreeUptoRow : OpenClaim := { program := "ytlpjpmfhkmddjaadoor", sum := "0c6baa4234b4b41a346aec8ea6427592cab4febd41c7b239e4197eae3b6266b5", func := "loop.example/s01594/laws.FnExactEncodeTree", spec := "fnExactEncodeTree", inPlace := ["internal/bytealg.CountString", "internal/bytealg.IndexByteString", "internal/bytealg.IndexString"], recurses := true, named := ["unicode/utf8.first", "unicode/utf8.acceptRanges", "internal/bytealg.MaxLen"], apart := false, laid := [("unicode/utf8.acceptRanges", laid_unicode_utf8_acceptRanges), ("unicode/utf8.first", laid_unicode_utf8_first)], narrowed := true }
def FnExactEncodeTreeUptoSaid : Prop := fnExactEncodeTreeUptoRow.holds Tryd.pinned (OpenSpec.upto fnExactEncodeTreeSpec)

/-- 'laws.FnExactEncodeTxn', WHERE WHAT IT READS IS OF BULK AT MOST 1048576: true; the input reads as it did. -/
def fnExactEncodeTxnUptoRow : OpenClaim := { program := "ytlpjpmfhkmddjaadoor", sum := "0c6baa4234b4b41a346aec8ea6427592cab4febd41c7b239e4197eae3b6266b5", func := "loop.example/s01594/laws.FnExactEncodeTxn", spec := "fnExactEncodeTxn", inPlace := ["internal/bytealg.CountString", "internal/bytealg.IndexByteString", "internal/bytealg.IndexString"], recurses := true, named := ["unicode/utf8.first", "unicode/utf8.acceptRanges", "internal/bytealg.MaxLen"], apart := false, laid := [("unicode/utf8.acceptRanges", laid_unicode_utf8_acceptRanges), ("unicode/utf8.first", laid_unicode_utf8_first)], narrowed := true }
def FnExactEncodeTxnUptoSaid : Prop := fnExactEncodeTxnUptoRow.holds Tryd.pinned (OpenSpec.upto fnExactEncodeTxnSpec)

end Rows
end Go.Proofs.YtlpjpmfhkmddjaaDoor
