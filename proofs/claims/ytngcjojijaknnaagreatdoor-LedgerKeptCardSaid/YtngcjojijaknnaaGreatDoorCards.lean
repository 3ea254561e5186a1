/-
  DERIVED. GIVEN WITH THE SEED: THE CARDS: each row of YtngcjojijaknnaaGreatDoorRows.lean that lists a variable, with what it lists TIED to the program's text (the seventh form; the later family's looks); each row that meets fmt, with fmt's text TOLD by the authors' own Lean function (tested against real Go, not proved from fmt's source: count such statements apart). THE CARD IS WHAT COUNTS. Prove the row's statement (the work); the ties are given (YtngcjojijaknnaaGreatDoorTie.lean); close each card by the builder's one call (the guide's Derived/Test/ToyasCard.lean, 'card_holds'). Laid BY PROGRAM, IN A SANDBOX (cutbox-door.mjs). By AI agents, Wed Nov 11 2026. No macro, syntax, notation, axiom, sorry.
-/
import Derived.Test.YtngcjojijaknnaaGreatDoorRows
import GoSem.ClaimSeven
namespace Go.Proofs.YtngcjojijaknnaaGreatDoor
namespace Rows

/-- THE TIED CARD OF 'culpritlaw41.LedgerCodes'. -/
def ledgerCodesCard : Claim7 := { stood := { row := ledgerCodesRow, standIns := [], harness := (true, "fcd225a335f5b9125088e66bfef1fab2e604e0eb5ce093c2492d417989202789"), looks := false }, kinds := [], alts := [], laidByText := true, laidKinds := [.data], laidTests := true, laidLooks := .later }
def LedgerCodesCardSaid : Prop := Claim7.holds Tryz.pinned (.plain (OpenSpec.ofChange ledgerCodesSpec)) ledgerCodesCard

/-- THE TIED CARD OF 'culpritlaw41.LedgerKnows'. -/
def ledgerKnowsCard : Claim7 := { stood := { row := ledgerKnowsRow, standIns := [], harness := (true, "fcd225a335f5b9125088e66bfef1fab2e604e0eb5ce093c2492d417989202789"), looks := false }, kinds := [], alts := [], laidByText := true, laidKinds := [.data], laidTests := true, laidLooks := .later }
def LedgerKnowsCardSaid : Prop := Claim7.holds Tryz.pinned (.plain (OpenSpec.ofChange ledgerKnowsSpec)) ledgerKnowsCard

/-- THE TIED CARD OF 'culpritlaw41.LedgerRots'. -/
def ledgerRotsCard : Claim7 := { stood := { row := ledgerRotsRow, standIns := [], harness := (true, "fcd225a335f5b9125088e66bfef1fab2e604e0eb5ce093c2492d417989202789"), looks := false }, kinds := [], alts := [], laidByText := true, laidKinds := [.data], laidTests := true, laidLooks := .later }
def LedgerRotsCardSaid : Prop := Claim7.holds Tryz.pinned (.plain (OpenSpec.ofChange ledgerRotsSpec)) ledgerRotsCard

/-- THE TIED CARD OF 'culpritlaw41.LedgerThen'. -/
def ledgerThenCard : Claim7 := { stood := { row := ledgerThenRow, standIns := [], harness := (true, "fcd225a335f5b9125088e66bfef1fab2e604e0eb5ce093c2492d417989202789"), looks := false }, kinds := [], alts := [], laidByText := true, laidKinds := [.data], laidTests := true, laidLooks := .later }
def LedgerThenCardSaid : Prop := Claim7.holds Tryz.pinned (.plain (OpenSpec.ofChange ledgerThenSpec)) ledgerThenCard

/-- THE TIED CARD OF 'culpritlaw41.LedgerRoots'. -/
def ledgerRootsCard : Claim7 := { stood := { row := ledgerRootsRow, standIns := [], harness := (true, "fcd225a335f5b9125088e66bfef1fab2e604e0eb5ce093c2492d417989202789"), looks := false }, kinds := [], alts := [], laidByText := true, laidKinds := [.data, .data], laidTests := true, laidLooks := .later }
def LedgerRootsCardSaid : Prop := Claim7.holds Tryz.pinned (.plain (OpenSpec.ofChange ledgerRootsSpec)) ledgerRootsCard

/-- THE TIED CARD OF 'culpritlaw41.LedgerRuns'. -/
def ledgerRunsCard : Claim7 := { stood := { row := ledgerRunsRow, standIns := [], harness := (true, "fcd225a335f5b9125088e66bfef1fab2e604e0eb5ce093c2492d417989202789"), looks := false }, kinds := [], alts := [], laidByText := true, laidKinds := [.data, .data], laidTests := true, laidLooks := .later }
def LedgerRunsCardSaid : Prop := Claim7.holds Tryz.pinned (.plain (OpenSpec.ofChange ledgerRunsSpec)) ledgerRunsCard

/-- THE TIED CARD OF 'culpritlaw41.LedgerKept'. -/
def ledgerKeptCard : Claim7 := { stood := { row := ledgerKeptRow, standIns := [], harness := (true, "fcd225a335f5b9125088e66bfef1fab2e604e0eb5ce093c2492d417989202789"), looks := false }, kinds := [], alts := [], laidByText := true, laidKinds := [.data, .data], laidTests := true, laidLooks := .later }
def LedgerKeptCardSaid : Prop := Claim7.holds Tryz.pinned (.plain (OpenSpec.ofChange ledgerKeptSpec)) ledgerKeptCard

/-- THE SECOND FORM's CARD OF 'culpritlaw41.LedgerCodes'. -/
def ledgerCodesUptoCard : Claim7 := { stood := { row := ledgerCodesUptoRow, standIns := [], harness := (true, "fcd225a335f5b9125088e66bfef1fab2e604e0eb5ce093c2492d417989202789"), looks := false }, kinds := [], alts := [], laidByText := true, laidKinds := [.data], laidTests := true, laidLooks := .later }
def LedgerCodesUptoCardSaid : Prop := Claim7.holds Tryz.pinned (.plain (OpenSpec.upto ledgerCodesSpec)) ledgerCodesUptoCard

/-- THE SECOND FORM's CARD OF 'culpritlaw41.LedgerKnows'. -/
def ledgerKnowsUptoCard : Claim7 := { stood := { row := ledgerKnowsUptoRow, standIns := [], harness := (true, "fcd225a335f5b9125088e66bfef1fab2e604e0eb5ce093c2492d417989202789"), looks := false }, kinds := [], alts := [], laidByText := true, laidKinds := [.data], laidTests := true, laidLooks := .later }
def LedgerKnowsUptoCardSaid : Prop := Claim7.holds Tryz.pinned (.plain (OpenSpec.upto ledgerKnowsSpec)) ledgerKnowsUptoCard

/-- THE SECOND FORM's CARD OF 'culpritlaw41.LedgerRots'. -/
def ledgerRotsUptoCard : Claim7 := { stood := { row := ledgerRotsUptoRow, standIns := [], harness := (true, "fcd225a335f5b9125088e66bfef1fab2e604e0eb5ce093c2492d417989202789"), looks := false }, kinds := [], alts := [], laidByText := true, laidKinds := [.data], laidTests := true, laidLooks := .later }
def LedgerRotsUptoCardSaid : Prop := Claim7.holds Tryz.pinned (.plain (OpenSpec.upto ledgerRotsSpec)) ledgerRotsUptoCard

/-- THE SECOND FORM's CARD OF 'culpritlaw41.LedgerThen'. -/
def ledgerThenUptoCard : Claim7 := { stood := { row := ledgerThenUptoRow, standIns := [], harness := (true, "fcd225a335f5b9125088e66bfef1fab2e604e0eb5ce093c2492d417989202789"), looks := false }, kinds := [], alts := [], laidByText := true, laidKinds := [.data], laidTests := true, laidLooks := .later }
def LedgerThenUptoCardSaid : Prop := Claim7.holds Tryz.pinned (.plain (OpenSpec.upto ledgerThenSpec)) ledgerThenUptoCard

/-- THE SECOND FORM's CARD OF 'culpritlaw41.LedgerRoots'. -/
def ledgerRootsUptoCard : Claim7 := { stood := { row := ledgerRootsUptoRow, standIns := [], harness := (true, "fcd225a335f5b9125088e66bfef1fab2e604e0eb5ce093c2492d417989202789"), looks := false }, kinds := [], alts := [], laidByText := true, laidKinds := [.data, .data], laidTests := true, laidLooks := .later }
def LedgerRootsUptoCardSaid : Prop := Claim7.holds Tryz.pinned (.plain (OpenSpec.upto ledgerRootsSpec)) ledgerRootsUptoCard

/-- THE SECOND FORM's CARD OF 'culpritlaw41.LedgerRuns'. -/
def ledgerRunsUptoCard : Claim7 := { stood := { row := ledgerRunsUptoRow, standIns := [], harness := (true, "fcd225a335f5b9125088e66bfef1fab2e604e0eb5ce093c2492d417989202789"), looks := false }, kinds := [], alts := [], laidByText := true, laidKinds := [.data, .data], laidTests := true, laidLooks := .later }
def LedgerRunsUptoCardSaid : Prop := Claim7.holds Tryz.pinned (.plain (OpenSpec.upto ledgerRunsSpec)) ledgerRunsUptoCard

/-- THE SECOND FORM's CARD OF 'culpritlaw41.LedgerKept'. -/
def ledgerKeptUptoCard : Claim7 := { stood := { row := ledgerKeptUptoRow, standIns := [], harness := (true, "fcd225a335f5b9125088e66bfef1fab2e604e0eb5ce093c2492d417989202789"), looks := false }, kinds := [], alts := [], laidByText := true, laidKinds := [.data, .data], laidTests := true, laidLooks := .later }
def LedgerKeptUptoCardSaid : Prop := Claim7.holds Tryz.pinned (.plain (OpenSpec.upto ledgerKeptSpec)) ledgerKeptUptoCard
end Rows
end Go.Proofs.YtngcjojijaknnaaGreatDoor
