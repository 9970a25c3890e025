/-
  DERIVED. GIVEN WITH THE SEED: THE CARDS: each row of YtpoehkacfmljcaaGreatDoorRows.lean that lists a variable, with what it lists TIED to the program's text (the seventh form; the later family's looks); each row that meets fmt, with fmt's text TOLD by the authors' own Lean function (tested against real Go, not proved from fmt's source: count such statements apart). THE CARD IS WHAT COUNTS. Prove the row's statement (the work); the ties are given (YtpoehkacfmljcaaGreatDoorTie.lean); close each card by the builder's one call (the guide's Derived/Test/ToyasCard.lean, 'card_holds'). Laid BY PROGRAM, IN A SANDBOX (cutbox-door.mjs). By AI agents, Wed Nov 11 2026. No macro, syntax, notation, axiom, sorry.
-/
import Derived.Test.YtpoehkacfmljcaaGreatDoorRows
import GoSem.ClaimSeven
namespace Go.Proofs.YtpoehkacfmljcaaGreatDoor
namespace Rows

/-- THE TIED CARD OF 'payofflaw16.SaveEncodes'. -/
def saveEncodesCard : Claim7 := { stood := { row := saveEncodesRow, standIns := [], harness := (true, "efd5e7caafab99d83feae906c7688122fe7f343d643b1635d6ff82d2fbc2cfac"), looks := false }, kinds := [], alts := [], laidByText := true, laidKinds := [.data, .data, .data, .data], laidTests := true, laidLooks := .later }
def SaveEncodesCardSaid : Prop := Claim7.holds Tryz.pinned (.plain (OpenSpec.ofChange saveEncodesSpec)) saveEncodesCard

/-- THE SECOND FORM's CARD OF 'payofflaw16.SaveEncodes'. -/
def saveEncodesUptoCard : Claim7 := { stood := { row := saveEncodesUptoRow, standIns := [], harness := (true, "efd5e7caafab99d83feae906c7688122fe7f343d643b1635d6ff82d2fbc2cfac"), looks := false }, kinds := [], alts := [], laidByText := true, laidKinds := [.data, .data, .data, .data], laidTests := true, laidLooks := .later }
def SaveEncodesUptoCardSaid : Prop := Claim7.holds Tryz.pinned (.plain (OpenSpec.upto saveEncodesSpec)) saveEncodesUptoCard
end Rows
end Go.Proofs.YtpoehkacfmljcaaGreatDoor
