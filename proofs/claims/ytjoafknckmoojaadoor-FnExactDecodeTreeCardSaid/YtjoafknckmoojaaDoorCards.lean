/-
  DERIVED. GIVEN WITH THE SEED: THE CARDS: each row of YtjoafknckmoojaaDoorRows.lean that lists a variable, with what it lists TIED to the program's text (the seventh form; the later family's looks); each row that meets fmt, with fmt's text TOLD by the authors' own Lean function (tested against real Go, not proved from fmt's source: count such statements apart). THE CARD IS WHAT COUNTS. Prove the row's statement (the work); the ties are given (YtjoafknckmoojaaDoorTie.lean); close each card by the builder's one call (the guide's Derived/Test/ToyasCard.lean, 'card_holds'). Laid BY PROGRAM, IN A SANDBOX (cutbox-door.mjs). By AI agents, Wed Nov 11 2026. No macro, syntax, notation, axiom, sorry.
-/
import Derived.Test.YtjoafknckmoojaaDoorRows
import GoSem.ClaimSeven
namespace Go.Proofs.YtjoafknckmoojaaDoor
namespace Rows

/-- THE TIED CARD OF 'laws.FnExactDecodeTree'. -/
def fnExactDecodeTreeCard : Claim7 := { stood := { row := fnExactDecodeTreeRow, standIns := [], harness := (true, "f8f99be4c3f27d399c6bbdec6a59a119b6d6485c644bf482fc2975ae71ba5d33"), looks := true }, kinds := [], alts := [], laidByText := true, laidKinds := [.data, .pinned], laidTests := true, laidLooks := .later }
def FnExactDecodeTreeCardSaid : Prop := Claim7.holds Tryd.pinned (.plain (OpenSpec.ofChange fnExactDecodeTreeSpec)) fnExactDecodeTreeCard

/-- THE TIED CARD OF 'laws.FnExactDecodeTxn'. -/
def fnExactDecodeTxnCard : Claim7 := { stood := { row := fnExactDecodeTxnRow, standIns := [], harness := (true, "f8f99be4c3f27d399c6bbdec6a59a119b6d6485c644bf482fc2975ae71ba5d33"), looks := true }, kinds := [], alts := [], laidByText := true, laidKinds := [.data, .pinned], laidTests := true, laidLooks := .later }
def FnExactDecodeTxnCardSaid : Prop := Claim7.holds Tryd.pinned (.plain (OpenSpec.ofChange fnExactDecodeTxnSpec)) fnExactDecodeTxnCard

/-- THE TIED CARD OF 'laws.FnExactFormatDisk'. -/
def fnExactFormatDiskCard : Claim7 := { stood := { row := fnExactFormatDiskRow, standIns := [], harness := (true, "f8f99be4c3f27d399c6bbdec6a59a119b6d6485c644bf482fc2975ae71ba5d33"), looks := true }, kinds := [], alts := [], laidByText := true, laidKinds := [.data, .data, .pinned], laidTests := true, laidLooks := .later }
def FnExactFormatDiskCardSaid : Prop := Claim7.holds Tryd.pinned (.plain (OpenSpec.ofChange fnExactFormatDiskSpec)) fnExactFormatDiskCard

/-- THE TIED CARD OF 'laws.FnExactChildren'. -/
def fnExactChildrenCard : Claim7 := { stood := { row := fnExactChildrenRow, standIns := [], harness := (true, "f8f99be4c3f27d399c6bbdec6a59a119b6d6485c644bf482fc2975ae71ba5d33"), looks := true }, kinds := [], alts := [], laidByText := true, laidKinds := [.data, .pinned], laidTests := true, laidLooks := .later }
def FnExactChildrenCardSaid : Prop := Claim7.holds Tryd.pinned (.plain (OpenSpec.ofChange fnExactChildrenSpec)) fnExactChildrenCard

/-- THE TIED CARD OF 'laws.FnImages'. -/
def fnImagesCard : Claim7 := { stood := { row := fnImagesRow, standIns := [], harness := (true, "f8f99be4c3f27d399c6bbdec6a59a119b6d6485c644bf482fc2975ae71ba5d33"), looks := true }, kinds := [], alts := [], laidByText := true, laidKinds := [.data, .data, .pinned], laidTests := true, laidLooks := .later }
def FnImagesCardSaid : Prop := Claim7.holds Tryd.pinned (.plain (OpenSpec.ofChange fnImagesSpec)) fnImagesCard

/-- THE TIED CARD OF 'laws.FnExactApplyTxn'. -/
def fnExactApplyTxnCard : Claim7 := { stood := { row := fnExactApplyTxnRow, standIns := [], harness := (true, "f8f99be4c3f27d399c6bbdec6a59a119b6d6485c644bf482fc2975ae71ba5d33"), looks := true }, kinds := [], alts := [], laidByText := true, laidKinds := [.data, .pinned], laidTests := true, laidLooks := .later }
def FnExactApplyTxnCardSaid : Prop := Claim7.holds Tryd.pinned (.plain (OpenSpec.ofChange fnExactApplyTxnSpec)) fnExactApplyTxnCard

/-- THE TIED CARD OF 'laws.FnExactParseLine'. -/
def fnExactParseLineCard : Claim7 := { stood := { row := fnExactParseLineRow, standIns := [], harness := (true, "f8f99be4c3f27d399c6bbdec6a59a119b6d6485c644bf482fc2975ae71ba5d33"), looks := true }, kinds := [], alts := [], laidByText := true, laidKinds := [.data, .data, .data, .data, .sentinel, .sentinel, .pinned], laidTests := true, laidLooks := .later }
def FnExactParseLineCardSaid : Prop := Claim7.holds Tryd.pinned (.plain (OpenSpec.ofChange fnExactParseLineSpec)) fnExactParseLineCard

/-- THE TIED CARD OF 'laws.FnCrcByte'. -/
def fnCrcByteCard : Claim7 := { stood := { row := fnCrcByteRow, standIns := [], harness := (true, "f8f99be4c3f27d399c6bbdec6a59a119b6d6485c644bf482fc2975ae71ba5d33"), looks := true }, kinds := [], alts := [], laidByText := true, laidKinds := [.data], laidTests := true, laidLooks := .later }
def FnCrcByteCardSaid : Prop := Claim7.holds Tryd.pinned (.plain (OpenSpec.ofChange fnCrcByteSpec)) fnCrcByteCard

/-- THE SECOND FORM's CARD OF 'laws.FnExactDecodeTree'. -/
def fnExactDecodeTreeUptoCard : Claim7 := { stood := { row := fnExactDecodeTreeUptoRow, standIns := [], harness := (true, "f8f99be4c3f27d399c6bbdec6a59a119b6d6485c644bf482fc2975ae71ba5d33"), looks := true }, kinds := [], alts := [], laidByText := true, laidKinds := [.data, .pinned], laidTests := true, laidLooks := .later }
def FnExactDecodeTreeUptoCardSaid : Prop := Claim7.holds Tryd.pinned (.plain (OpenSpec.upto fnExactDecodeTreeSpec)) fnExactDecodeTreeUptoCard

/-- THE SECOND FORM's CARD OF 'laws.FnExactDecodeTxn'. -/
def fnExactDecodeTxnUptoCard : Claim7 := { stood := { row := fnExactDecodeTxnUptoRow, standIns := [], harness := (true, "f8f99be4c3f27d399c6bbdec6a59a119b6d6485c644bf482fc2975ae71ba5d33"), looks := true }, kinds := [], alts := [], laidByText := true, laidKinds := [.data, .pinned], laidTests := true, laidLooks := .later }
def FnExactDecodeTxnUptoCardSaid : Prop := Claim7.holds Tryd.pinned (.plain (OpenSpec.upto fnExactDecodeTxnSpec)) fnExactDecodeTxnUptoCard

/-- THE SECOND FORM's CARD OF 'laws.FnExactFormatDisk'. -/
def fnExactFormatDiskUptoCard : Claim7 := { stood := { row := fnExactFormatDiskUptoRow, standIns := [], harness := (true, "f8f99be4c3f27d399c6bbdec6a59a119b6d6485c644bf482fc2975ae71ba5d33"), looks := true }, kinds := [], alts := [], laidByText := true, laidKinds := [.data, .data, .pinned], laidTests := true, laidLooks := .later }
def FnExactFormatDiskUptoCardSaid : Prop := Claim7.holds Tryd.pinned (.plain (OpenSpec.upto fnExactFormatDiskSpec)) fnExactFormatDiskUptoCard

/-- THE SECOND FORM's CARD OF 'laws.FnExactChildren'. -/
def fnExactChildrenUptoCard : Claim7 := { stood := { row := fnExactChildrenUptoRow, standIns := [], harness := (true, "f8f99be4c3f27d399c6bbdec6a59a119b6d6485c644bf482fc2975ae71ba5d33"), looks := true }, kinds := [], alts := [], laidByText := true, laidKinds := [.data, .pinned], laidTests := true, laidLooks := .later }
def FnExactChildrenUptoCardSaid : Prop := Claim7.holds Tryd.pinned (.plain (OpenSpec.upto fnExactChildrenSpec)) fnExactChildrenUptoCard

/-- THE SECOND FORM's CARD OF 'laws.FnImages'. -/
def fnImagesUptoCard : Claim7 := { stood := { row := fnImagesUptoRow, standIns := [], harness := (true, "f8f99be4c3f27d399c6bbdec6a59a119b6d6485c644bf482fc2975ae71ba5d33"), looks := true }, kinds := [], alts := [], laidByText := true, laidKinds := [.data, .data, .pinned], laidTests := true, laidLooks := .later }
def FnImagesUptoCardSaid : Prop := Claim7.holds Tryd.pinned (.plain (OpenSpec.upto fnImagesSpec)) fnImagesUptoCard

/-- THE SECOND FORM's CARD OF 'laws.FnExactApplyTxn'. -/
def fnExactApplyTxnUptoCard : Claim7 := { stood := { row := fnExactApplyTxnUptoRow, standIns := [], harness := (true, "f8f99be4c3f27d399c6bbdec6a59a119b6d6485c644bf482fc2975ae71ba5d33"), looks := true }, kinds := [], alts := [], laidByText := true, laidKinds := [.data, .pinned], laidTests := true, laidLooks := .later }
def FnExactApplyTxnUptoCardSaid : Prop := Claim7.holds Tryd.pinned (.plain (OpenSpec.upto fnExactApplyTxnSpec)) fnExactApplyTxnUptoCard

/-- THE SECOND FORM's CARD OF 'laws.FnExactParseLine'. -/
def fnExactParseLineUptoCard : Claim7 := { stood := { row := fnExactParseLineUptoRow, standIns := [], harness := (true, "f8f99be4c3f27d399c6bbdec6a59a119b6d6485c644bf482fc2975ae71ba5d33"), looks := true }, kinds := [], alts := [], laidByText := true, laidKinds := [.data, .data, .data, .data, .sentinel, .sentinel, .pinned], laidTests := true, laidLooks := .later }
def FnExactParseLineUptoCardSaid : Prop := Claim7.holds Tryd.pinned (.plain (OpenSpec.upto fnExactParseLineSpec)) fnExactParseLineUptoCard

/-- THE SECOND FORM's CARD OF 'laws.FnCrcByte'. -/
def fnCrcByteUptoCard : Claim7 := { stood := { row := fnCrcByteUptoRow, standIns := [], harness := (true, "f8f99be4c3f27d399c6bbdec6a59a119b6d6485c644bf482fc2975ae71ba5d33"), looks := true }, kinds := [], alts := [], laidByText := true, laidKinds := [.data], laidTests := true, laidLooks := .later }
def FnCrcByteUptoCardSaid : Prop := Claim7.holds Tryd.pinned (.plain (OpenSpec.upto fnCrcByteSpec)) fnCrcByteUptoCard
end Rows
end Go.Proofs.YtjoafknckmoojaaDoor
