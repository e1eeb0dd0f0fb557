/-
  DERIVED. GIVEN WITH THE SEED: THE CARDS: each row of YtmjfoickgcapmaaDoorRows.lean that lists a variable, with what it lists TIED to the program's text (the seventh form; the later family's looks); each row that meets fmt, with fmt's text TOLD by the authors' own Lean function (tested against real Go, not proved from fmt's source: count such statements apart). THE CARD IS WHAT COUNTS. Prove the row's statement (the work); the ties are given (YtmjfoickgcapmaaDoorTie.lean); close each card by the builder's one call (the guide's Derived/Test/ToyasCard.lean, 'card_holds'). Laid BY PROGRAM, IN A SANDBOX (cutbox-door.mjs). By AI agents, Wed Nov 11 2026. No macro, syntax, notation, axiom, sorry.
-/
import Derived.Test.YtmjfoickgcapmaaDoorRows
import GoSem.ClaimSeven
namespace Go.Proofs.YtmjfoickgcapmaaDoor
namespace Rows

/-- THE TIED CARD OF 'laws.FnCrcByte'. -/
def fnCrcByteCard : Claim7 := { stood := { row := fnCrcByteRow, standIns := [], harness := (true, "9405265dea5bcb82e4a3dc72bd91a1934ed58550715a1d3ceea00fa534ed6f33"), looks := false }, kinds := [], alts := [], laidByText := true, laidKinds := [.data], laidTests := true, laidLooks := .later }
def FnCrcByteCardSaid : Prop := Claim7.holds Tryd.pinned (.plain (OpenSpec.ofChange fnCrcByteSpec)) fnCrcByteCard

/-- THE TIED CARD OF 'laws.FnExactCrc'. -/
def fnExactCrcCard : Claim7 := { stood := { row := fnExactCrcRow, standIns := [], harness := (true, "9405265dea5bcb82e4a3dc72bd91a1934ed58550715a1d3ceea00fa534ed6f33"), looks := false }, kinds := [], alts := [], laidByText := true, laidKinds := [.data], laidTests := true, laidLooks := .later }
def FnExactCrcCardSaid : Prop := Claim7.holds Tryd.pinned (.plain (OpenSpec.ofChange fnExactCrcSpec)) fnExactCrcCard

/-- THE SECOND FORM's CARD OF 'laws.FnCrcByte'. -/
def fnCrcByteUptoCard : Claim7 := { stood := { row := fnCrcByteUptoRow, standIns := [], harness := (true, "9405265dea5bcb82e4a3dc72bd91a1934ed58550715a1d3ceea00fa534ed6f33"), looks := false }, kinds := [], alts := [], laidByText := true, laidKinds := [.data], laidTests := true, laidLooks := .later }
def FnCrcByteUptoCardSaid : Prop := Claim7.holds Tryd.pinned (.plain (OpenSpec.upto fnCrcByteSpec)) fnCrcByteUptoCard

/-- THE SECOND FORM's CARD OF 'laws.FnExactCrc'. -/
def fnExactCrcUptoCard : Claim7 := { stood := { row := fnExactCrcUptoRow, standIns := [], harness := (true, "9405265dea5bcb82e4a3dc72bd91a1934ed58550715a1d3ceea00fa534ed6f33"), looks := false }, kinds := [], alts := [], laidByText := true, laidKinds := [.data], laidTests := true, laidLooks := .later }
def FnExactCrcUptoCardSaid : Prop := Claim7.holds Tryd.pinned (.plain (OpenSpec.upto fnExactCrcSpec)) fnExactCrcUptoCard
end Rows
end Go.Proofs.YtmjfoickgcapmaaDoor
