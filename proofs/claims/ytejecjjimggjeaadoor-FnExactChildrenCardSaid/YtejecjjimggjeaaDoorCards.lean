/-
  DERIVED. GIVEN WITH THE SEED: THE CARDS: each row of YtejecjjimggjeaaDoorRows.lean that lists a variable, with what it lists TIED to the program's text (the seventh form; the later family's looks); each row that meets fmt, with fmt's text TOLD by the authors' own Lean function (tested against real Go, not proved from fmt's source: count such statements apart). THE CARD IS WHAT COUNTS. Prove the row's statement (the work); the ties are given (YtejecjjimggjeaaDoorTie.lean); close each card by the builder's one call (the guide's Derived/Test/ToyasCard.lean, 'card_holds'). Laid BY PROGRAM, IN A SANDBOX (cutbox-door.mjs). By AI agents, Wed Nov 11 2026. No macro, syntax, notation, axiom, sorry.
-/
import Derived.Test.YtejecjjimggjeaaDoorRows
import GoSem.ClaimSeven
namespace Go.Proofs.YtejecjjimggjeaaDoor
namespace Rows

/-- THE TIED CARD OF 'laws.FnExactDecodeTxn'. -/
def fnExactDecodeTxnCard : Claim7 := { stood := { row := fnExactDecodeTxnRow, standIns := [], harness := (true, "7eac08beafe4578f115470f8e3fee0b3433b76e3cd2f3cfd95b4b8f75153eaa9"), looks := true }, kinds := [], alts := [], laidByText := true, laidKinds := [.data, .pinned], laidTests := true, laidLooks := .later }
def FnExactDecodeTxnCardSaid : Prop := Claim7.holds Tryd.pinned (.plain (OpenSpec.ofChange fnExactDecodeTxnSpec)) fnExactDecodeTxnCard

/-- THE TIED CARD OF 'laws.FnCrcByte'. -/
def fnCrcByteCard : Claim7 := { stood := { row := fnCrcByteRow, standIns := [], harness := (true, "7eac08beafe4578f115470f8e3fee0b3433b76e3cd2f3cfd95b4b8f75153eaa9"), looks := true }, kinds := [], alts := [], laidByText := true, laidKinds := [.data], laidTests := true, laidLooks := .later }
def FnCrcByteCardSaid : Prop := Claim7.holds Tryd.pinned (.plain (OpenSpec.ofChange fnCrcByteSpec)) fnCrcByteCard

/-- THE TIED CARD OF 'laws.FnExactChildren'. -/
def fnExactChildrenCard : Claim7 := { stood := { row := fnExactChildrenRow, standIns := [], harness := (true, "7eac08beafe4578f115470f8e3fee0b3433b76e3cd2f3cfd95b4b8f75153eaa9"), looks := true }, kinds := [], alts := [], laidByText := true, laidKinds := [.data, .pinned], laidTests := true, laidLooks := .later }
def FnExactChildrenCardSaid : Prop := Claim7.holds Tryd.pinned (.plain (OpenSpec.ofChange fnExactChildrenSpec)) fnExactChildrenCard

/-- THE SECOND FORM's CARD OF 'laws.FnExactDecodeTxn'. -/
def fnExactDecodeTxnUptoCard : Claim7 := { stood := { row := fnExactDecodeTxnUptoRow, standIns := [], harness := (true, "7eac08beafe4578f115470f8e3fee0b3433b76e3cd2f3cfd95b4b8f75153eaa9"), looks := true }, kinds := [], alts := [], laidByText := true, laidKinds := [.data, .pinned], laidTests := true, laidLooks := .later }
def FnExactDecodeTxnUptoCardSaid : Prop := Claim7.holds Tryd.pinned (.plain (OpenSpec.upto fnExactDecodeTxnSpec)) fnExactDecodeTxnUptoCard

/-- THE SECOND FORM's CARD OF 'laws.FnCrcByte'. -/
def fnCrcByteUptoCard : Claim7 := { stood := { row := fnCrcByteUptoRow, standIns := [], harness := (true, "7eac08beafe4578f115470f8e3fee0b3433b76e3cd2f3cfd95b4b8f75153eaa9"), looks := true }, kinds := [], alts := [], laidByText := true, laidKinds := [.data], laidTests := true, laidLooks := .later }
def FnCrcByteUptoCardSaid : Prop := Claim7.holds Tryd.pinned (.plain (OpenSpec.upto fnCrcByteSpec)) fnCrcByteUptoCard

/-- THE SECOND FORM's CARD OF 'laws.FnExactChildren'. -/
def fnExactChildrenUptoCard : Claim7 := { stood := { row := fnExactChildrenUptoRow, standIns := [], harness := (true, "7eac08beafe4578f115470f8e3fee0b3433b76e3cd2f3cfd95b4b8f75153eaa9"), looks := true }, kinds := [], alts := [], laidByText := true, laidKinds := [.data, .pinned], laidTests := true, laidLooks := .later }
def FnExactChildrenUptoCardSaid : Prop := Claim7.holds Tryd.pinned (.plain (OpenSpec.upto fnExactChildrenSpec)) fnExactChildrenUptoCard
end Rows
end Go.Proofs.YtejecjjimggjeaaDoor
