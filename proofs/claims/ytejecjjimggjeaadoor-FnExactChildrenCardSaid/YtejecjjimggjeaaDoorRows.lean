/-
  NARROWER THAN 'FOR EVERY INPUT', by the rows' own cells (each row's printed sentence says how): FnExactDecodeTxn: laid · FnCrcByte: laid · FnExactChildren: laid.
  DERIVED. THE GIVEN ROWS OF THIS SEAT. 3 by the template 'for every input the law returns true; each argument reads behind the call as it read before'; 0 by the template 'total and deterministic' (their statements: YtejecjjimggjeaaDoorTotals.lean).
  GIVEN WITH THE SEED: the statements are not yours to turn. If you find one false, say at which input.
  Laid BY PROGRAM, IN A SANDBOX (cutbox-rows.mjs): the forced cells as the released guide's own fill.sh prints them over the translation d47e94668a73b7b2… (all of the seat's roots in one cut). By AI agents, Wed Nov 11 2026. No macro, syntax, notation, axiom, sorry.
-/
import Derived.Test.YtejecjjimggjeaaDoorChecked
import GoSem.PinnedTables
import GoSem.Claim
import GoSem.ClaimJoined
import GoSem.ClaimMapViews
import Derived.JoinedTies
import Derived.KernelRfl
namespace Go.Proofs.YtejecjjimggjeaaDoor
/- THE CELL 'sum', in the pinned program and in every row, IS THE sha256 OF THE DUMP (.gsa) THAT YtejecjjimggjeaaDoorProg.lean LOADS. Nothing in Lean hashes anything: it is a label: what it is worth is what the hold of that sum in a sandbox is worth. -/
noncomputable def Tryd.pinned : Pinned := { name := "ytejecjjimggjeaadoor", sum := "d47e94668a73b7b2347f6a347d36fbf99d5ce087a655cc55f797ad70a0ae31bc", checked := Tryd.checked }
namespace Rows
def none {H : Type} : Left H := { results := [], args := [] }

/- WHAT THE LISTED PACKAGE-LEVEL VARIABLES READ AS WHEN THE CALL BEGINS. Each datum BY PROGRAM (the guide's laid-datum.mjs) off the statement by which the dump's own 'gosem.cut.vars' lays the variable. In a bare row this is a premise. The card (YtejecjjimggjeaaDoorCards.lean) ties it to the program's text. -/
def laid_unicode_utf8_acceptRanges {H : Type} : DataW H := .agg [.agg [.lit (.int .u8 128), .lit (.int .u8 191)], .agg [.lit (.int .u8 160), .lit (.int .u8 191)], .agg [.lit (.int .u8 128), .lit (.int .u8 159)], .agg [.lit (.int .u8 144), .lit (.int .u8 191)], .agg [.lit (.int .u8 128), .lit (.int .u8 143)], .agg [.lit (.int .u8 0), .lit (.int .u8 0)], .agg [.lit (.int .u8 0), .lit (.int .u8 0)], .agg [.lit (.int .u8 0), .lit (.int .u8 0)], .agg [.lit (.int .u8 0), .lit (.int .u8 0)], .agg [.lit (.int .u8 0), .lit (.int .u8 0)], .agg [.lit (.int .u8 0), .lit (.int .u8 0)], .agg [.lit (.int .u8 0), .lit (.int .u8 0)], .agg [.lit (.int .u8 0), .lit (.int .u8 0)], .agg [.lit (.int .u8 0), .lit (.int .u8 0)], .agg [.lit (.int .u8 0), .lit (.int .u8 0)], .agg [.lit (.int .u8 0), .lit (.int .u8 0)]]
/-- One of Go's own tables, pinned by name: the form's constant. -/
def laid_unicode_utf8_first : DataW Unit := Go.Pinned.utf8First
def laid_loop_example_s01594_impl_nibbles {H : Type} : DataW H := .agg [.lit (.int .u32 0), .lit (.int .u32 274646895), .lit (.int .u32 549293790), .lit (.int .u32 820201905), .lit (.int .u32 1098587580), .lit (.int .u32 1361435347), .lit (.int .u32 1640403810), .lit (.int .u32 1905808397), .lit (.int .u32 2197175160), .lit (.int .u32 2460548119), .lit (.int .u32 2722870694), .lit (.int .u32 2987750089), .lit (.int .u32 3280807620), .lit (.int .u32 3553878443), .lit (.int .u32 3811616794), .lit (.int .u32 4084100981)]

/-- 'laws.FnExactDecodeTxn': WHATEVER THE INPUT: true; the input reads as it did. -/
def fnExactDecodeTxnSpec : ChangeSpec := { name := "fnExactDecodeTxn", fn := fun _ => fun
  | [d] => { results := [.lit (.bool true)], args := [d] }
  | _ => none }
def fnExactDecodeTxnRow : OpenClaim := { program := "ytejecjjimggjeaadoor", sum := "d47e94668a73b7b2347f6a347d36fbf99d5ce087a655cc55f797ad70a0ae31bc", func := "loop.example/s01594/laws.FnExactDecodeTxn", spec := "fnExactDecodeTxn", inPlace := ["internal/bytealg.CountString", "internal/bytealg.IndexByteString", "internal/bytealg.IndexString"], unfollowed := true, recurses := true, named := ["unicode/utf8.first", "unicode/utf8.acceptRanges", "internal/bytealg.MaxLen"], apart := false, laid := [("unicode/utf8.acceptRanges", laid_unicode_utf8_acceptRanges), ("unicode/utf8.first", laid_unicode_utf8_first)] }
def FnExactDecodeTxnSaid : Prop := fnExactDecodeTxnRow.holds Tryd.pinned (OpenSpec.ofChange fnExactDecodeTxnSpec)

/-- ITS FALSE NEIGHBOUR: 'it returns false'. Refute it at one input. -/
def fnExactDecodeTxnWrong : ChangeSpec := { name := "fnExactDecodeTxn", fn := fun _ => fun
  | [d] => { results := [.lit (.bool false)], args := [d] }
  | _ => none }
def FnExactDecodeTxnWrongFalsely : Prop := fnExactDecodeTxnRow.holds Tryd.pinned (OpenSpec.ofChange fnExactDecodeTxnWrong)

/-- 'laws.FnCrcByte': WHATEVER THE INPUT: true; the input reads as it did. -/
def fnCrcByteSpec : ChangeSpec := { name := "fnCrcByte", vars := ["loop.example/s01594/impl.nibbles"], fn := fun _ => fun
  | [d1, d2, g1] => { results := [.lit (.bool true)], args := [d1, d2], vars := [g1] }
  | _ => none }
def fnCrcByteRow : OpenClaim := { program := "ytejecjjimggjeaadoor", sum := "d47e94668a73b7b2347f6a347d36fbf99d5ce087a655cc55f797ad70a0ae31bc", func := "loop.example/s01594/laws.FnCrcByte", spec := "fnCrcByte", named := ["loop.example/s01594/impl.nibbles"], apart := false, laid := [("loop.example/s01594/impl.nibbles", laid_loop_example_s01594_impl_nibbles)] }
def FnCrcByteSaid : Prop := fnCrcByteRow.holds Tryd.pinned (OpenSpec.ofChange fnCrcByteSpec)

/-- ITS FALSE NEIGHBOUR: 'it returns false'. Refute it at one input. -/
def fnCrcByteWrong : ChangeSpec := { name := "fnCrcByte", vars := ["loop.example/s01594/impl.nibbles"], fn := fun _ => fun
  | [d1, d2, g1] => { results := [.lit (.bool false)], args := [d1, d2], vars := [g1] }
  | _ => none }
def FnCrcByteWrongFalsely : Prop := fnCrcByteRow.holds Tryd.pinned (OpenSpec.ofChange fnCrcByteWrong)

/-- 'laws.FnExactChildren': WHATEVER THE INPUT: true; the input reads as it did. -/
def fnExactChildrenSpec : ChangeSpec := { name := "fnExactChildren", fn := fun _ => fun
  | [d1, d2] => { results := [.lit (.bool true)], args := [d1, d2] }
  | _ => none }
def fnExactChildrenRow : OpenClaim := { program := "ytejecjjimggjeaadoor", sum := "d47e94668a73b7b2347f6a347d36fbf99d5ce087a655cc55f797ad70a0ae31bc", func := "loop.example/s01594/laws.FnExactChildren", spec := "fnExactChildren", inPlace := ["internal/bytealg.CountString", "internal/bytealg.IndexByteString", "internal/bytealg.IndexString"], recurses := true, named := ["unicode/utf8.first", "unicode/utf8.acceptRanges", "internal/bytealg.MaxLen"], apart := false, laid := [("unicode/utf8.acceptRanges", laid_unicode_utf8_acceptRanges), ("unicode/utf8.first", laid_unicode_utf8_first)] }
def FnExactChildrenSaid : Prop := fnExactChildrenRow.holds Tryd.pinned (OpenSpec.ofChange fnExactChildrenSpec)

/-- ITS FALSE NEIGHBOUR: 'it returns false'. Refute it at one input. -/
def fnExactChildrenWrong : ChangeSpec := { name := "fnExactChildren", fn := fun _ => fun
  | [d1, d2] => { results := [.lit (.bool false)], args := [d1, d2] }
  | _ => none }
def FnExactChildrenWrongFalsely : Prop := fnExactChildrenRow.holds Tryd.pinned (OpenSpec.ofChange fnExactChildrenWrong)

/- THE SECOND FORM. 'bulk': how many values and letters a reading holds, each counted each time it is reached (what is shared counts as often as it is met; a slice's spare places count too). A statement '..UptoSaid' is the law's where the arguments, and the package variables that the reading takes, are together of bulk at most 1048576: NARROWER than '..Said'. Prove '..Said' where nothing that the law and all that it calls make is longer than what came in: it says more and counts as full. Else prove '..UptoSaid'. A law counts once. -/
mutual
def uptoBulk {H : Type} : DataW H → Nat
  | .lit (.string bytes) => bytes.length + 1
  | .lit _ => 1
  | .nil => 1
  | .ptr d => uptoBulk d + 1
  | .slice elems spare => uptoBulkAll elems + uptoBulkAll spare + 1
  | .agg parts => uptoBulkAll parts + 1
  | .iface _ d => uptoBulk d + 1
  | .map entries => uptoBulkEntries entries + 1
  | .held _ => 1
def uptoBulkAll {H : Type} : List (DataW H) → Nat
  | [] => 0
  | d :: r => uptoBulk d + uptoBulkAll r
def uptoBulkEntries {H : Type} : List (Lit × DataW H) → Nat
  | [] => 0
  | x :: r => uptoBulkEntry x + uptoBulkEntries r
def uptoBulkEntry {H : Type} : Lit × DataW H → Nat
  | (.string bytes, d) => bytes.length + uptoBulk d + 1
  | (_, d) => uptoBulk d + 1
 end
def uptoSmall : (H : Type) → List (DataW H) → Bool := fun _ ds => decide (uptoBulkAll ds ≤ 1048576)
def OpenSpec.upto (s : _root_.Go.ChangeSpec) : _root_.Go.OpenSpec := { _root_.Go.OpenSpec.ofChange s with cond := some uptoSmall }

/-- 'laws.FnExactDecodeTxn', WHERE WHAT IT READS IS OF BULK AT MOST 1048576: true; the input reads as it did. -/
def fnExactDecodeTxnUptoRow : OpenClaim := { program := "ytejecjjimggjeaadoor", sum := "d47e94668a73b7b2347f6a347d36fbf99d5ce087a655cc55f797ad70a0ae31bc", func := "loop.example/s01594/laws.FnExactDecodeTxn", spec := "fnExactDecodeTxn", inPlace := ["internal/bytealg.CountString", "internal/bytealg.IndexByteString", "internal/bytealg.IndexString"], unfollowed := true, recurses := true, named := ["unicode/utf8.first", "unicode/utf8.acceptRanges", "internal/bytealg.MaxLen"], apart := false, laid := [("unicode/utf8.acceptRanges", laid_unicode_utf8_acceptRanges), ("unicode/utf8.first", laid_unicode_utf8_first)], narrowed := true }
def FnExactDecodeTxnUptoSaid : Prop := fnExactDecodeTxnUptoRow.holds Tryd.pinned (OpenSpec.upto fnExactDecodeTxnSpec)

/-- 'laws.FnCrcByte', WHERE WHAT IT READS IS OF BULK AT MOST 1048576: true; the input reads as it did. -/
def fnCrcByteUptoRow : OpenClaim := { program := "ytejecjjimggjeaadoor", sum := "d47e94668a73b7b2347f6a347d36fbf99d5ce087a655cc55f797ad70a0ae31bc", func := "loop.example/s01594/laws.FnCrcByte", spec := "fnCrcByte", named := ["loop.example/s01594/impl.nibbles"], apart := false, laid := [("loop.example/s01594/impl.nibbles", laid_loop_example_s01594_impl_nibbles)], narrowed := true }
def FnCrcByteUptoSaid : Prop := fnCrcByteUptoRow.holds Tryd.pinned (OpenSpec.upto fnCrcByteSpec)

/-- 'laws.FnExactChildren', WHERE WHAT IT READS IS OF BULK AT MOST 1048576: true; the input reads as it did. -/
def fnExactChildrenUptoRow : OpenClaim := { program := "ytejecjjimggjeaadoor", sum := "d47e94668a73b7b2347f6a347d36fbf99d5ce087a655cc55f797ad70a0ae31bc", func := "loop.example/s01594/laws.FnExactChildren", spec := "fnExactChildren", inPlace := ["internal/bytealg.CountString", "internal/bytealg.IndexByteString", "internal/bytealg.IndexString"], recurses := true, named := ["unicode/utf8.first", "unicode/utf8.acceptRanges", "internal/bytealg.MaxLen"], apart := false, laid := [("unicode/utf8.acceptRanges", laid_unicode_utf8_acceptRanges), ("unicode/utf8.first", laid_unicode_utf8_first)], narrowed := true }
def FnExactChildrenUptoSaid : Prop := fnExactChildrenUptoRow.holds Tryd.pinned (OpenSpec.upto fnExactChildrenSpec)

end Rows
end Go.Proofs.YtejecjjimggjeaaDoor
