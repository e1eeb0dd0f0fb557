/-
  DERIVED. GIVEN WITH THE SEED: THE CARDS: each row of YtlpjpmfhkmddjaaDoorRows.lean that lists a variable, with what it lists TIED to the program's text (the seventh form; the later family's looks); each row that meets fmt, with fmt's text TOLD by the authors' own Lean function (tested against real Go, not proved from fmt's source: count such statements apart). THE CARD IS WHAT COUNTS. Prove the row's statement (the work); the ties are given (YtlpjpmfhkmddjaaDoorTie.lean); close each card by the builder's one call (the guide's Derived/Test/ToyasCard.lean, 'card_holds'). Laid BY PROGRAM, IN A SANDBOX (cutbox-door.mjs). By AI agents, Wed Nov 11 2026. No macro, syntax, notation, axiom, sorry.
-/
import Derived.Test.YtlpjpmfhkmddjaaDoorRows
import GoSem.ClaimSeven
namespace Go.Proofs.YtlpjpmfhkmddjaaDoor
namespace Rows

/-- THE TIED CARD OF 'laws.FnExactValidPath'. -/
def fnExactValidPathCard : Claim7 := { stood := { row := fnExactValidPathRow, standIns := [], harness := (true, "bd07aa5e47a98a50c690ad6323ffaec177a5c6e0929c44676fd1f8ff67ed2670"), looks := false }, kinds := [], alts := [], laidByText := true, laidKinds := [.data, .pinned], laidTests := true, laidLooks := .later }
def FnExactValidPathCardSaid : Prop := Claim7.holds Tryd.pinned (.plain (OpenSpec.ofChange fnExactValidPathSpec)) fnExactValidPathCard

/-- THE TIED CARD OF 'laws.FnExactValidTree'. -/
def fnExactValidTreeCard : Claim7 := { stood := { row := fnExactValidTreeRow, standIns := [], harness := (true, "bd07aa5e47a98a50c690ad6323ffaec177a5c6e0929c44676fd1f8ff67ed2670"), looks := false }, kinds := [], alts := [], laidByText := true, laidKinds := [.data, .pinned], laidTests := true, laidLooks := .later }
def FnExactValidTreeCardSaid : Prop := Claim7.holds Tryd.pinned (.plain (OpenSpec.ofChange fnExactValidTreeSpec)) fnExactValidTreeCard

/-- THE TIED CARD OF 'laws.FnExactValidTxn'. -/
def fnExactValidTxnCard : Claim7 := { stood := { row := fnExactValidTxnRow, standIns := [], harness := (true, "bd07aa5e47a98a50c690ad6323ffaec177a5c6e0929c44676fd1f8ff67ed2670"), looks := false }, kinds := [], alts := [], laidByText := true, laidKinds := [.data, .pinned], laidTests := true, laidLooks := .later }
def FnExactValidTxnCardSaid : Prop := Claim7.holds Tryd.pinned (.plain (OpenSpec.ofChange fnExactValidTxnSpec)) fnExactValidTxnCard

/-- THE TIED CARD OF 'laws.FnExactEncodeTree'. -/
def fnExactEncodeTreeCard : Claim7 := { stood := { row := fnExactEncodeTreeRow, standIns := [], harness := (true, "bd07aa5e47a98a50c690ad6323ffaec177a5c6e0929c44676fd1f8ff67ed2670"), looks := false }, kinds := [], alts := [], laidByText := true, laidKinds := [.data, .pinned], laidTests := true, laidLooks := .later }
def FnExactEncodeTreeCardSaid : Prop := Claim7.holds Tryd.pinned (.plain (OpenSpec.ofChange fnExactEncodeTreeSpec)) fnExactEncodeTreeCard

/-- THE TIED CARD OF 'laws.FnExactEncodeTxn'. -/
def fnExactEncodeTxnCard : Claim7 := { stood := { row := fnExactEncodeTxnRow, standIns := [], harness := (true, "bd07aa5e47a98a50c690ad6323ffaec177a5c6e0929c44676fd1f8ff67ed2670"), looks := false }, kinds := [], alts := [], laidByText := true, laidKinds := [.data, .pinned], laidTests := true, laidLooks := .later }
def FnExactEncodeTxnCardSaid : Prop := Claim7.holds Tryd.pinned (.plain (OpenSpec.ofChange fnExactEncodeTxnSpec)) fnExactEncodeTxnCard

/-- THE SECOND FORM's CARD OF 'laws.FnExactValidPath'. -/
def fnExactValidPathUptoCard : Claim7 := { stood := { row := fnExactValidPathUptoRow, standIns := [], harness := (true, "bd07aa5e47a98a50c690ad6323ffaec177a5c6e0929c44676fd1f8ff67ed2670"), looks := false }, kinds := [], alts := [], laidByText := true, laidKinds := [.data, .pinned], laidTests := true, laidLooks := .later }
def FnExactValidPathUptoCardSaid : Prop := Claim7.holds Tryd.pinned (.plain (OpenSpec.upto fnExactValidPathSpec)) fnExactValidPathUptoCard

/-- THE SECOND FORM's CARD OF 'laws.FnExactValidTree'. -/
def fnExactValidTreeUptoCard : Claim7 := { stood := { row := fnExactValidTreeUptoRow, standIns := [], harness := (true, "bd07aa5e47a98a50c690ad6323ffaec177a5c6e0929c44676fd1f8ff67ed2670"), looks := false }, kinds := [], alts := [], laidByText := true, laidKinds := [.data, .pinned], laidTests := true, laidLooks := .later }
def FnExactValidTreeUptoCardSaid : Prop := Claim7.holds Tryd.pinned (.plain (OpenSpec.upto fnExactValidTreeSpec)) fnExactValidTreeUptoCard

/-- THE SECOND FORM's CARD OF 'laws.FnExactValidTxn'. -/
def fnExactValidTxnUptoCard : Claim7 := { stood := { row := fnExactValidTxnUptoRow, standIns := [], harness := (true, "bd07aa5e47a98a50c690ad6323ffaec177a5c6e0929c44676fd1f8ff67ed2670"), looks := false }, kinds := [], alts := [], laidByText := true, laidKinds := [.data, .pinned], laidTests := true, laidLooks := .later }
def FnExactValidTxnUptoCardSaid : Prop := Claim7.holds Tryd.pinned (.plain (OpenSpec.upto fnExactValidTxnSpec)) fnExactValidTxnUptoCard

/-- THE SECOND FORM's CARD OF 'laws.FnExactEncodeTree'. -/
def fnExactEncodeTreeUptoCard : Claim7 := { stood := { row := fnExactEncodeTreeUptoRow, standIns := [], harness := (true, "bd07aa5e47a98a50c690ad6323ffaec177a5c6e0929c44676fd1f8ff67ed2670"), looks := false }, kinds := [], alts := [], laidByText := true, laidKinds := [.data, .pinned], laidTests := true, laidLooks := .later }
def FnExactEncodeTreeUptoCardSaid : Prop := Claim7.holds Tryd.pinned (.plain (OpenSpec.upto fnExactEncodeTreeSpec)) fnExactEncodeTreeUptoCard

/-- THE SECOND FORM's CARD OF 'laws.FnExactEncodeTxn'. -/
def fnExactEncodeTxnUptoCard : Claim7 := { stood := { row := fnExactEncodeTxnUptoRow, standIns := [], harness := (true, "bd07aa5e47a98a50c690ad6323ffaec177a5c6e0929c44676fd1f8ff67ed2670"), looks := false }, kinds := [], alts := [], laidByText := true, laidKinds := [.data, .pinned], laidTests := true, laidLooks := .later }
def FnExactEncodeTxnUptoCardSaid : Prop := Claim7.holds Tryd.pinned (.plain (OpenSpec.upto fnExactEncodeTxnSpec)) fnExactEncodeTxnUptoCard
end Rows
end Go.Proofs.YtlpjpmfhkmddjaaDoor
