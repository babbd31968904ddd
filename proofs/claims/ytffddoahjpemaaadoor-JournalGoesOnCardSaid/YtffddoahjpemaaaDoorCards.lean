/-
  DERIVED. GIVEN WITH THE SEED: THE CARDS: each row of YtffddoahjpemaaaDoorRows.lean that lists a variable, with what it lists TIED to the program's text (the seventh form; the later family's looks); each row that meets fmt, with fmt's text TOLD by the authors' own Lean function (tested against real Go, not proved from fmt's source: count such statements apart). THE CARD IS WHAT COUNTS. Prove the row's statement (the work); the ties are given (YtffddoahjpemaaaDoorTie.lean); close each card by the builder's one call (the guide's Derived/Test/ToyasCard.lean, 'card_holds'). Laid BY PROGRAM, IN A SANDBOX (cutbox-door.mjs). By AI agents, Wed Nov 11 2026. No macro, syntax, notation, axiom, sorry.
-/
import Derived.Test.YtffddoahjpemaaaDoorRows
import GoSem.ClaimSeven
namespace Go.Proofs.YtffddoahjpemaaaDoor
namespace Rows

/-- THE TIED CARD OF 'gantrylaw36.JournalSectors'. -/
def journalSectorsCard : Claim7 := { stood := { row := journalSectorsRow, standIns := [], harness := (true, "f15330bc27604c97b97d57c8b71d8c908ceb5f38a4ba34a15c57924923039c8b"), looks := false }, kinds := [], alts := [], laidByText := true, laidKinds := [.data, .data], laidTests := true, laidLooks := .later }
def JournalSectorsCardSaid : Prop := Claim7.holds Tryd.pinned (.plain (OpenSpec.ofChange journalSectorsSpec)) journalSectorsCard

/-- THE TIED CARD OF 'gantrylaw36.JournalGoesOn'. -/
def journalGoesOnCard : Claim7 := { stood := { row := journalGoesOnRow, standIns := [], harness := (true, "f15330bc27604c97b97d57c8b71d8c908ceb5f38a4ba34a15c57924923039c8b"), looks := false }, kinds := [], alts := [], laidByText := true, laidKinds := [.data], laidTests := true, laidLooks := .later }
def JournalGoesOnCardSaid : Prop := Claim7.holds Tryd.pinned (.plain (OpenSpec.ofChange journalGoesOnSpec)) journalGoesOnCard

/-- THE SECOND FORM's CARD OF 'gantrylaw36.JournalSectors'. -/
def journalSectorsUptoCard : Claim7 := { stood := { row := journalSectorsUptoRow, standIns := [], harness := (true, "f15330bc27604c97b97d57c8b71d8c908ceb5f38a4ba34a15c57924923039c8b"), looks := false }, kinds := [], alts := [], laidByText := true, laidKinds := [.data, .data], laidTests := true, laidLooks := .later }
def JournalSectorsUptoCardSaid : Prop := Claim7.holds Tryd.pinned (.plain (OpenSpec.upto journalSectorsSpec)) journalSectorsUptoCard

/-- THE SECOND FORM's CARD OF 'gantrylaw36.JournalGoesOn'. -/
def journalGoesOnUptoCard : Claim7 := { stood := { row := journalGoesOnUptoRow, standIns := [], harness := (true, "f15330bc27604c97b97d57c8b71d8c908ceb5f38a4ba34a15c57924923039c8b"), looks := false }, kinds := [], alts := [], laidByText := true, laidKinds := [.data], laidTests := true, laidLooks := .later }
def JournalGoesOnUptoCardSaid : Prop := Claim7.holds Tryd.pinned (.plain (OpenSpec.upto journalGoesOnSpec)) journalGoesOnUptoCard
end Rows
end Go.Proofs.YtffddoahjpemaaaDoor
