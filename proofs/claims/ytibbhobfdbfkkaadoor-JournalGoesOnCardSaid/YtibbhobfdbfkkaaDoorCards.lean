/-
  DERIVED. GIVEN WITH THE SEED: THE CARDS: each row of YtibbhobfdbfkkaaDoorRows.lean that lists a variable, with what it lists TIED to the program's text (the seventh form; the later family's looks); each row that meets fmt, with fmt's text TOLD by the authors' own Lean function (tested against real Go, not proved from fmt's source: count such statements apart). THE CARD IS WHAT COUNTS. Prove the row's statement (the work); the ties are given (YtibbhobfdbfkkaaDoorTie.lean); close each card by the builder's one call (the guide's Derived/Test/ToyasCard.lean, 'card_holds'). Laid BY PROGRAM, IN A SANDBOX (cutbox-door.mjs). By AI agents, Wed Nov 11 2026. No macro, syntax, notation, axiom, sorry.
-/
import Derived.Test.YtibbhobfdbfkkaaDoorRows
import GoSem.ClaimSeven
namespace Go.Proofs.YtibbhobfdbfkkaaDoor
namespace Rows

/-- THE TIED CARD OF 'culpritlaw40.JournalSectors'. -/
def journalSectorsCard : Claim7 := { stood := { row := journalSectorsRow, standIns := [], harness := (true, "f23520eb646e3dda7fd2d065e5077a2bdb6136213037f48149083609528e2632"), looks := false }, kinds := [], alts := [], laidByText := true, laidKinds := [.data, .data], laidTests := true, laidLooks := .later }
def JournalSectorsCardSaid : Prop := Claim7.holds Tryd.pinned (.plain (OpenSpec.ofChange journalSectorsSpec)) journalSectorsCard

/-- THE TIED CARD OF 'culpritlaw40.JournalGoesOn'. -/
def journalGoesOnCard : Claim7 := { stood := { row := journalGoesOnRow, standIns := [], harness := (true, "f23520eb646e3dda7fd2d065e5077a2bdb6136213037f48149083609528e2632"), looks := false }, kinds := [], alts := [], laidByText := true, laidKinds := [.data], laidTests := true, laidLooks := .later }
def JournalGoesOnCardSaid : Prop := Claim7.holds Tryd.pinned (.plain (OpenSpec.ofChange journalGoesOnSpec)) journalGoesOnCard

/-- THE SECOND FORM's CARD OF 'culpritlaw40.JournalSectors'. -/
def journalSectorsUptoCard : Claim7 := { stood := { row := journalSectorsUptoRow, standIns := [], harness := (true, "f23520eb646e3dda7fd2d065e5077a2bdb6136213037f48149083609528e2632"), looks := false }, kinds := [], alts := [], laidByText := true, laidKinds := [.data, .data], laidTests := true, laidLooks := .later }
def JournalSectorsUptoCardSaid : Prop := Claim7.holds Tryd.pinned (.plain (OpenSpec.upto journalSectorsSpec)) journalSectorsUptoCard

/-- THE SECOND FORM's CARD OF 'culpritlaw40.JournalGoesOn'. -/
def journalGoesOnUptoCard : Claim7 := { stood := { row := journalGoesOnUptoRow, standIns := [], harness := (true, "f23520eb646e3dda7fd2d065e5077a2bdb6136213037f48149083609528e2632"), looks := false }, kinds := [], alts := [], laidByText := true, laidKinds := [.data], laidTests := true, laidLooks := .later }
def JournalGoesOnUptoCardSaid : Prop := Claim7.holds Tryd.pinned (.plain (OpenSpec.upto journalGoesOnSpec)) journalGoesOnUptoCard
end Rows
end Go.Proofs.YtibbhobfdbfkkaaDoor
