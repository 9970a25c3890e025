/-
  DERIVED. GIVEN WITH THE SEED: THE CARDS: each row of YtdebllinaffceaaDoorRows.lean that lists a variable, with what it lists TIED to the program's text (the seventh form; the later family's looks); each row that meets fmt, with fmt's text TOLD by the authors' own Lean function (tested against real Go, not proved from fmt's source: count such statements apart). THE CARD IS WHAT COUNTS. Prove the row's statement (the work); the ties are given (YtdebllinaffceaaDoorTie.lean); close each card by the builder's one call (the guide's Derived/Test/ToyasCard.lean, 'card_holds'). Laid BY PROGRAM, IN A SANDBOX (cutbox-door.mjs). By AI agents, Wed Nov 11 2026. No macro, syntax, notation, axiom, sorry.
-/
import Derived.Test.YtdebllinaffceaaDoorRows
import GoSem.ClaimSeven
namespace Go.Proofs.YtdebllinaffceaaDoor
namespace Rows

/-- THE TIED CARD OF 'payofflaw02.CalThirds'. -/
def calThirdsCard : Claim7 := { stood := { row := calThirdsRow, standIns := [], harness := (true, "6a0e979754ae37cd667bf354d70a33ec4d06d744fc85dbad488365af7086f564"), looks := false }, kinds := [], alts := [], laidByText := true, laidKinds := [.data], laidTests := true, laidLooks := .later }
def CalThirdsCardSaid : Prop := Claim7.holds Tryd.pinned (.plain (OpenSpec.ofChange calThirdsSpec)) calThirdsCard

/-- THE TIED CARD OF 'payofflaw02.CalSixty'. -/
def calSixtyCard : Claim7 := { stood := { row := calSixtyRow, standIns := [], harness := (true, "6a0e979754ae37cd667bf354d70a33ec4d06d744fc85dbad488365af7086f564"), looks := false }, kinds := [], alts := [], laidByText := true, laidKinds := [.data], laidTests := true, laidLooks := .later }
def CalSixtyCardSaid : Prop := Claim7.holds Tryd.pinned (.plain (OpenSpec.ofChange calSixtySpec)) calSixtyCard

/-- THE TIED CARD OF 'payofflaw02.CalOne'. -/
def calOneCard : Claim7 := { stood := { row := calOneRow, standIns := [], harness := (true, "6a0e979754ae37cd667bf354d70a33ec4d06d744fc85dbad488365af7086f564"), looks := false }, kinds := [], alts := [], laidByText := true, laidKinds := [.data], laidTests := true, laidLooks := .later }
def CalOneCardSaid : Prop := Claim7.holds Tryd.pinned (.plain (OpenSpec.ofChange calOneSpec)) calOneCard

/-- THE TIED CARD OF 'payofflaw02.CalNumbers'. -/
def calNumbersCard : Claim7 := { stood := { row := calNumbersRow, standIns := [], harness := (true, "6a0e979754ae37cd667bf354d70a33ec4d06d744fc85dbad488365af7086f564"), looks := false }, kinds := [], alts := [], laidByText := true, laidKinds := [.data], laidTests := true, laidLooks := .later }
def CalNumbersCardSaid : Prop := Claim7.holds Tryd.pinned (.plain (OpenSpec.ofChange calNumbersSpec)) calNumbersCard

/-- THE TIED CARD OF 'payofflaw02.CalTexts'. -/
def calTextsCard : Claim7 := { stood := { row := calTextsRow, standIns := [], harness := (true, "6a0e979754ae37cd667bf354d70a33ec4d06d744fc85dbad488365af7086f564"), looks := false }, kinds := [], alts := [], laidByText := true, laidKinds := [.data], laidTests := true, laidLooks := .later }
def CalTextsCardSaid : Prop := Claim7.holds Tryd.pinned (.plain (OpenSpec.ofChange calTextsSpec)) calTextsCard

/-- THE TIED CARD OF 'payofflaw02.CalAdds'. -/
def calAddsCard : Claim7 := { stood := { row := calAddsRow, standIns := [], harness := (true, "6a0e979754ae37cd667bf354d70a33ec4d06d744fc85dbad488365af7086f564"), looks := false }, kinds := [], alts := [], laidByText := true, laidKinds := [.data], laidTests := true, laidLooks := .later }
def CalAddsCardSaid : Prop := Claim7.holds Tryd.pinned (.plain (OpenSpec.ofChange calAddsSpec)) calAddsCard

/-- THE TIED CARD OF 'payofflaw02.CalTenors'. -/
def calTenorsCard : Claim7 := { stood := { row := calTenorsRow, standIns := [], harness := (true, "6a0e979754ae37cd667bf354d70a33ec4d06d744fc85dbad488365af7086f564"), looks := false }, kinds := [], alts := [], laidByText := true, laidKinds := [.data], laidTests := true, laidLooks := .later }
def CalTenorsCardSaid : Prop := Claim7.holds Tryd.pinned (.plain (OpenSpec.ofChange calTenorsSpec)) calTenorsCard

/-- THE TIED CARD OF 'payofflaw02.CalThereAndBack'. -/
def calThereAndBackCard : Claim7 := { stood := { row := calThereAndBackRow, standIns := [], harness := (true, "6a0e979754ae37cd667bf354d70a33ec4d06d744fc85dbad488365af7086f564"), looks := false }, kinds := [], alts := [], laidByText := true, laidKinds := [.data], laidTests := true, laidLooks := .later }
def CalThereAndBackCardSaid : Prop := Claim7.holds Tryd.pinned (.plain (OpenSpec.ofChange calThereAndBackSpec)) calThereAndBackCard

/-- THE TIED CARD OF 'payofflaw02.CalMoves'. -/
def calMovesCard : Claim7 := { stood := { row := calMovesRow, standIns := [], harness := (true, "6a0e979754ae37cd667bf354d70a33ec4d06d744fc85dbad488365af7086f564"), looks := false }, kinds := [], alts := [], laidByText := true, laidKinds := [.data], laidTests := true, laidLooks := .later }
def CalMovesCardSaid : Prop := Claim7.holds Tryd.pinned (.plain (OpenSpec.ofChange calMovesSpec)) calMovesCard

/-- THE TIED CARD OF 'payofflaw02.CalNearest'. -/
def calNearestCard : Claim7 := { stood := { row := calNearestRow, standIns := [], harness := (true, "6a0e979754ae37cd667bf354d70a33ec4d06d744fc85dbad488365af7086f564"), looks := false }, kinds := [], alts := [], laidByText := true, laidKinds := [.data], laidTests := true, laidLooks := .later }
def CalNearestCardSaid : Prop := Claim7.holds Tryd.pinned (.plain (OpenSpec.ofChange calNearestSpec)) calNearestCard

/-- THE TIED CARD OF 'payofflaw02.CalSchedules'. -/
def calSchedulesCard : Claim7 := { stood := { row := calSchedulesRow, standIns := [], harness := (true, "6a0e979754ae37cd667bf354d70a33ec4d06d744fc85dbad488365af7086f564"), looks := false }, kinds := [], alts := [], laidByText := true, laidKinds := [.data], laidTests := true, laidLooks := .later }
def CalSchedulesCardSaid : Prop := Claim7.holds Tryd.pinned (.plain (OpenSpec.ofChange calSchedulesSpec)) calSchedulesCard

/-- THE TIED CARD OF 'payofflaw02.CalScheduled'. -/
def calScheduledCard : Claim7 := { stood := { row := calScheduledRow, standIns := [], harness := (true, "6a0e979754ae37cd667bf354d70a33ec4d06d744fc85dbad488365af7086f564"), looks := false }, kinds := [], alts := [], laidByText := true, laidKinds := [.data], laidTests := true, laidLooks := .later }
def CalScheduledCardSaid : Prop := Claim7.holds Tryd.pinned (.plain (OpenSpec.ofChange calScheduledSpec)) calScheduledCard

/-- THE SECOND FORM's CARD OF 'payofflaw02.CalThirds'. -/
def calThirdsUptoCard : Claim7 := { stood := { row := calThirdsUptoRow, standIns := [], harness := (true, "6a0e979754ae37cd667bf354d70a33ec4d06d744fc85dbad488365af7086f564"), looks := false }, kinds := [], alts := [], laidByText := true, laidKinds := [.data], laidTests := true, laidLooks := .later }
def CalThirdsUptoCardSaid : Prop := Claim7.holds Tryd.pinned (.plain (OpenSpec.upto calThirdsSpec)) calThirdsUptoCard

/-- THE SECOND FORM's CARD OF 'payofflaw02.CalSixty'. -/
def calSixtyUptoCard : Claim7 := { stood := { row := calSixtyUptoRow, standIns := [], harness := (true, "6a0e979754ae37cd667bf354d70a33ec4d06d744fc85dbad488365af7086f564"), looks := false }, kinds := [], alts := [], laidByText := true, laidKinds := [.data], laidTests := true, laidLooks := .later }
def CalSixtyUptoCardSaid : Prop := Claim7.holds Tryd.pinned (.plain (OpenSpec.upto calSixtySpec)) calSixtyUptoCard

/-- THE SECOND FORM's CARD OF 'payofflaw02.CalOne'. -/
def calOneUptoCard : Claim7 := { stood := { row := calOneUptoRow, standIns := [], harness := (true, "6a0e979754ae37cd667bf354d70a33ec4d06d744fc85dbad488365af7086f564"), looks := false }, kinds := [], alts := [], laidByText := true, laidKinds := [.data], laidTests := true, laidLooks := .later }
def CalOneUptoCardSaid : Prop := Claim7.holds Tryd.pinned (.plain (OpenSpec.upto calOneSpec)) calOneUptoCard

/-- THE SECOND FORM's CARD OF 'payofflaw02.CalNumbers'. -/
def calNumbersUptoCard : Claim7 := { stood := { row := calNumbersUptoRow, standIns := [], harness := (true, "6a0e979754ae37cd667bf354d70a33ec4d06d744fc85dbad488365af7086f564"), looks := false }, kinds := [], alts := [], laidByText := true, laidKinds := [.data], laidTests := true, laidLooks := .later }
def CalNumbersUptoCardSaid : Prop := Claim7.holds Tryd.pinned (.plain (OpenSpec.upto calNumbersSpec)) calNumbersUptoCard

/-- THE SECOND FORM's CARD OF 'payofflaw02.CalTexts'. -/
def calTextsUptoCard : Claim7 := { stood := { row := calTextsUptoRow, standIns := [], harness := (true, "6a0e979754ae37cd667bf354d70a33ec4d06d744fc85dbad488365af7086f564"), looks := false }, kinds := [], alts := [], laidByText := true, laidKinds := [.data], laidTests := true, laidLooks := .later }
def CalTextsUptoCardSaid : Prop := Claim7.holds Tryd.pinned (.plain (OpenSpec.upto calTextsSpec)) calTextsUptoCard

/-- THE SECOND FORM's CARD OF 'payofflaw02.CalAdds'. -/
def calAddsUptoCard : Claim7 := { stood := { row := calAddsUptoRow, standIns := [], harness := (true, "6a0e979754ae37cd667bf354d70a33ec4d06d744fc85dbad488365af7086f564"), looks := false }, kinds := [], alts := [], laidByText := true, laidKinds := [.data], laidTests := true, laidLooks := .later }
def CalAddsUptoCardSaid : Prop := Claim7.holds Tryd.pinned (.plain (OpenSpec.upto calAddsSpec)) calAddsUptoCard

/-- THE SECOND FORM's CARD OF 'payofflaw02.CalTenors'. -/
def calTenorsUptoCard : Claim7 := { stood := { row := calTenorsUptoRow, standIns := [], harness := (true, "6a0e979754ae37cd667bf354d70a33ec4d06d744fc85dbad488365af7086f564"), looks := false }, kinds := [], alts := [], laidByText := true, laidKinds := [.data], laidTests := true, laidLooks := .later }
def CalTenorsUptoCardSaid : Prop := Claim7.holds Tryd.pinned (.plain (OpenSpec.upto calTenorsSpec)) calTenorsUptoCard

/-- THE SECOND FORM's CARD OF 'payofflaw02.CalThereAndBack'. -/
def calThereAndBackUptoCard : Claim7 := { stood := { row := calThereAndBackUptoRow, standIns := [], harness := (true, "6a0e979754ae37cd667bf354d70a33ec4d06d744fc85dbad488365af7086f564"), looks := false }, kinds := [], alts := [], laidByText := true, laidKinds := [.data], laidTests := true, laidLooks := .later }
def CalThereAndBackUptoCardSaid : Prop := Claim7.holds Tryd.pinned (.plain (OpenSpec.upto calThereAndBackSpec)) calThereAndBackUptoCard

/-- THE SECOND FORM's CARD OF 'payofflaw02.CalMoves'. -/
def calMovesUptoCard : Claim7 := { stood := { row := calMovesUptoRow, standIns := [], harness := (true, "6a0e979754ae37cd667bf354d70a33ec4d06d744fc85dbad488365af7086f564"), looks := false }, kinds := [], alts := [], laidByText := true, laidKinds := [.data], laidTests := true, laidLooks := .later }
def CalMovesUptoCardSaid : Prop := Claim7.holds Tryd.pinned (.plain (OpenSpec.upto calMovesSpec)) calMovesUptoCard

/-- THE SECOND FORM's CARD OF 'payofflaw02.CalNearest'. -/
def calNearestUptoCard : Claim7 := { stood := { row := calNearestUptoRow, standIns := [], harness := (true, "6a0e979754ae37cd667bf354d70a33ec4d06d744fc85dbad488365af7086f564"), looks := false }, kinds := [], alts := [], laidByText := true, laidKinds := [.data], laidTests := true, laidLooks := .later }
def CalNearestUptoCardSaid : Prop := Claim7.holds Tryd.pinned (.plain (OpenSpec.upto calNearestSpec)) calNearestUptoCard

/-- THE SECOND FORM's CARD OF 'payofflaw02.CalSchedules'. -/
def calSchedulesUptoCard : Claim7 := { stood := { row := calSchedulesUptoRow, standIns := [], harness := (true, "6a0e979754ae37cd667bf354d70a33ec4d06d744fc85dbad488365af7086f564"), looks := false }, kinds := [], alts := [], laidByText := true, laidKinds := [.data], laidTests := true, laidLooks := .later }
def CalSchedulesUptoCardSaid : Prop := Claim7.holds Tryd.pinned (.plain (OpenSpec.upto calSchedulesSpec)) calSchedulesUptoCard

/-- THE SECOND FORM's CARD OF 'payofflaw02.CalScheduled'. -/
def calScheduledUptoCard : Claim7 := { stood := { row := calScheduledUptoRow, standIns := [], harness := (true, "6a0e979754ae37cd667bf354d70a33ec4d06d744fc85dbad488365af7086f564"), looks := false }, kinds := [], alts := [], laidByText := true, laidKinds := [.data], laidTests := true, laidLooks := .later }
def CalScheduledUptoCardSaid : Prop := Claim7.holds Tryd.pinned (.plain (OpenSpec.upto calScheduledSpec)) calScheduledUptoCard
end Rows
end Go.Proofs.YtdebllinaffceaaDoor
