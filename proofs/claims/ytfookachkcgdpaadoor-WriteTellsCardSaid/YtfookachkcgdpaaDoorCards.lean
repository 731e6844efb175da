/-
  DERIVED. GIVEN WITH THE SEED: THE CARDS: each row of YtfookachkcgdpaaDoorRows.lean that lists a variable, with what it lists TIED to the program's text (the seventh form; the later family's looks); each row that meets fmt, with fmt's text TOLD by the authors' own Lean function (tested against real Go, not proved from fmt's source: count such statements apart). THE CARD IS WHAT COUNTS. Prove the row's statement (the work); the ties are given (YtfookachkcgdpaaDoorTie.lean); close each card by the builder's one call (the guide's Derived/Test/ToyasCard.lean, 'card_holds'). Laid BY PROGRAM, IN A SANDBOX (cutbox-door.mjs). By AI agents, Wed Nov 11 2026. No macro, syntax, notation, axiom, sorry.
-/
import Derived.Test.YtfookachkcgdpaaDoorRows
import GoSem.ClaimSeven
namespace Go.Proofs.YtfookachkcgdpaaDoor
namespace Rows

/-- THE TIED CARD OF 'handfastlaw06.WriteTells'. -/
def writeTellsCard : Claim7 := { stood := { row := writeTellsRow, standIns := [], harness := (true, "3925a62a2a651c7b783fa2e55b172ef7217563e59ade620db0ad581d4830f879"), looks := true }, kinds := [], alts := [], laidByText := true, laidKinds := [.data, .data, .data], laidTests := true, laidLooks := .later }
def WriteTellsCardSaid : Prop := Claim7.holds Tryd.pinned (.plain (OpenSpec.ofChange writeTellsSpec)) writeTellsCard

/-- THE SECOND FORM's CARD OF 'handfastlaw06.WriteTells'. -/
def writeTellsUptoCard : Claim7 := { stood := { row := writeTellsUptoRow, standIns := [], harness := (true, "3925a62a2a651c7b783fa2e55b172ef7217563e59ade620db0ad581d4830f879"), looks := true }, kinds := [], alts := [], laidByText := true, laidKinds := [.data, .data, .data], laidTests := true, laidLooks := .later }
def WriteTellsUptoCardSaid : Prop := Claim7.holds Tryd.pinned (.plain (OpenSpec.upto writeTellsSpec)) writeTellsUptoCard
end Rows
end Go.Proofs.YtfookachkcgdpaaDoor
