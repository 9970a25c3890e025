/-
  DERIVED. GIVEN WITH THE SEED: THE CARDS: each row of YtmfbdmjgkcijcaaDoorRows.lean that lists a variable, with what it lists TIED to the program's text (the seventh form; the later family's looks); each row that meets fmt, with fmt's text TOLD by the authors' own Lean function (tested against real Go, not proved from fmt's source: count such statements apart). THE CARD IS WHAT COUNTS. Prove the row's statement (the work); the ties are given (YtmfbdmjgkcijcaaDoorTie.lean); close each card by the builder's one call (the guide's Derived/Test/ToyasCard.lean, 'card_holds'). Laid BY PROGRAM, IN A SANDBOX (cutbox-door.mjs). By AI agents, Wed Nov 11 2026. No macro, syntax, notation, axiom, sorry.
-/
import Derived.Test.YtmfbdmjgkcijcaaDoorRows
import GoSem.ClaimSeven
namespace Go.Proofs.YtmfbdmjgkcijcaaDoor
namespace Rows

/-- THE TIED CARD OF 'payofflaw16.SaveValids'. -/
def saveValidsCard : Claim7 := { stood := { row := saveValidsRow, standIns := [], harness := (true, "284b41c4eb96fa2dd7752a9d32838931f0da416f330c3b0d9bb17cb84c6de3b2"), looks := false }, kinds := [], alts := [], laidByText := true, laidKinds := [.data, .data, .data, .data], laidTests := true, laidLooks := .later }
def SaveValidsCardSaid : Prop := Claim7.holds Tryd.pinned (.plain (OpenSpec.ofChange saveValidsSpec)) saveValidsCard

/-- THE SECOND FORM's CARD OF 'payofflaw16.SaveValids'. -/
def saveValidsUptoCard : Claim7 := { stood := { row := saveValidsUptoRow, standIns := [], harness := (true, "284b41c4eb96fa2dd7752a9d32838931f0da416f330c3b0d9bb17cb84c6de3b2"), looks := false }, kinds := [], alts := [], laidByText := true, laidKinds := [.data, .data, .data, .data], laidTests := true, laidLooks := .later }
def SaveValidsUptoCardSaid : Prop := Claim7.holds Tryd.pinned (.plain (OpenSpec.upto saveValidsSpec)) saveValidsUptoCard
end Rows
end Go.Proofs.YtmfbdmjgkcijcaaDoor
