/-
  NARROWER THAN 'FOR EVERY INPUT', by the rows' own cells (each row's printed sentence says how): CalThirds: laid · CalSixty: laid · CalOne: laid · CalNumbers: laid · CalTexts: laid · CalAdds: laid · CalTenors: laid · CalThereAndBack: laid · CalMoves: laid · CalNearest: laid · CalSchedules: laid · CalScheduled: laid.
  DERIVED. THE GIVEN ROWS OF THIS SEAT. 12 by the template 'for every input the law returns true; each argument reads behind the call as it read before'; 0 by the template 'total and deterministic' (their statements: YtdebllinaffceaaDoorTotals.lean).
  GIVEN WITH THE SEED: the statements are not yours to turn. If you find one false, say at which input.
  Laid BY PROGRAM, IN A SANDBOX (cutbox-rows.mjs): the forced cells as the released guide's own fill.sh prints them over the translation b7dc0c601fa1b921… (all of the seat's roots in one cut). By AI agents, Wed Nov 11 2026. No macro, syntax, notation, axiom, sorry.
-/
import Derived.Test.YtdebllinaffceaaDoorChecked
import GoSem.Claim
import GoSem.ClaimJoined
import GoSem.ClaimMapViews
import Derived.JoinedTies
import Derived.KernelRfl
namespace Go.Proofs.YtdebllinaffceaaDoor
/- THE CELL 'sum', in the pinned program and in every row, IS THE sha256 OF THE DUMP (.gsa) THAT YtdebllinaffceaaDoorProg.lean LOADS. Nothing in Lean hashes anything: it is a label: what it is worth is what the hold of that sum in a sandbox is worth. -/
noncomputable def Tryd.pinned : Pinned := { name := "ytdebllinaffceaadoor", sum := "b7dc0c601fa1b9210d69657059eda3d56d34b104aa64c6880085adee983478f6", checked := Tryd.checked }
namespace Rows
def none {H : Type} : Left H := { results := [], args := [] }

/- WHAT THE LISTED PACKAGE-LEVEL VARIABLES READ AS WHEN THE CALL BEGINS. Each datum BY PROGRAM (the guide's laid-datum.mjs) off the statement by which the dump's own 'gosem.cut.vars' lays the variable. In a bare row this is a premise. The card (YtdebllinaffceaaDoorCards.lean) ties it to the program's text. -/
def laid_payoff_cal_months {H : Type} : DataW H := .agg [.lit (.int .i64 31), .lit (.int .i64 28), .lit (.int .i64 31), .lit (.int .i64 30), .lit (.int .i64 31), .lit (.int .i64 30), .lit (.int .i64 31), .lit (.int .i64 31), .lit (.int .i64 30), .lit (.int .i64 31), .lit (.int .i64 30), .lit (.int .i64 31)]

/-- 'payofflaw02.CalThirds': WHATEVER THE INPUT: true; the input reads as it did. -/
def calThirdsSpec : ChangeSpec := { name := "calThirds", fn := fun _ => fun
  | [d1, d2] => { results := [.lit (.bool true)], args := [d1, d2] }
  | _ => none }
def calThirdsRow : OpenClaim := { program := "ytdebllinaffceaadoor", sum := "b7dc0c601fa1b9210d69657059eda3d56d34b104aa64c6880085adee983478f6", func := "payoff/payofflaw02.CalThirds", spec := "calThirds", named := ["payoff/cal.months"], apart := false, laid := [("payoff/cal.months", laid_payoff_cal_months)] }
def CalThirdsSaid : Prop := calThirdsRow.holds Tryd.pinned (OpenSpec.ofChange calThirdsSpec)

/-- ITS FALSE NEIGHBOUR: 'it returns false'. Refute it at one input. -/
def calThirdsWrong : ChangeSpec := { name := "calThirds", fn := fun _ => fun
  | [d1, d2] => { results := [.lit (.bool false)], args := [d1, d2] }
  | _ => none }
def CalThirdsWrongFalsely : Prop := calThirdsRow.holds Tryd.pinned (OpenSpec.ofChange calThirdsWrong)

/-- 'payofflaw02.CalSixty': WHATEVER THE INPUT: true; the input reads as it did. -/
def calSixtySpec : ChangeSpec := { name := "calSixty", fn := fun _ => fun
  | [d1, d2, d3] => { results := [.lit (.bool true)], args := [d1, d2, d3] }
  | _ => none }
def calSixtyRow : OpenClaim := { program := "ytdebllinaffceaadoor", sum := "b7dc0c601fa1b9210d69657059eda3d56d34b104aa64c6880085adee983478f6", func := "payoff/payofflaw02.CalSixty", spec := "calSixty", named := ["payoff/cal.months"], apart := false, laid := [("payoff/cal.months", laid_payoff_cal_months)] }
def CalSixtySaid : Prop := calSixtyRow.holds Tryd.pinned (OpenSpec.ofChange calSixtySpec)

/-- ITS FALSE NEIGHBOUR: 'it returns false'. Refute it at one input. -/
def calSixtyWrong : ChangeSpec := { name := "calSixty", fn := fun _ => fun
  | [d1, d2, d3] => { results := [.lit (.bool false)], args := [d1, d2, d3] }
  | _ => none }
def CalSixtyWrongFalsely : Prop := calSixtyRow.holds Tryd.pinned (OpenSpec.ofChange calSixtyWrong)

/-- 'payofflaw02.CalOne': WHATEVER THE INPUT: true; the input reads as it did. -/
def calOneSpec : ChangeSpec := { name := "calOne", fn := fun _ => fun
  | [d] => { results := [.lit (.bool true)], args := [d] }
  | _ => none }
def calOneRow : OpenClaim := { program := "ytdebllinaffceaadoor", sum := "b7dc0c601fa1b9210d69657059eda3d56d34b104aa64c6880085adee983478f6", func := "payoff/payofflaw02.CalOne", spec := "calOne", named := ["payoff/cal.months"], apart := false, laid := [("payoff/cal.months", laid_payoff_cal_months)] }
def CalOneSaid : Prop := calOneRow.holds Tryd.pinned (OpenSpec.ofChange calOneSpec)

/-- ITS FALSE NEIGHBOUR: 'it returns false'. Refute it at one input. -/
def calOneWrong : ChangeSpec := { name := "calOne", fn := fun _ => fun
  | [d] => { results := [.lit (.bool false)], args := [d] }
  | _ => none }
def CalOneWrongFalsely : Prop := calOneRow.holds Tryd.pinned (OpenSpec.ofChange calOneWrong)

/-- 'payofflaw02.CalNumbers': WHATEVER THE INPUT: true; the input reads as it did. -/
def calNumbersSpec : ChangeSpec := { name := "calNumbers", fn := fun _ => fun
  | [d1, d2] => { results := [.lit (.bool true)], args := [d1, d2] }
  | _ => none }
def calNumbersRow : OpenClaim := { program := "ytdebllinaffceaadoor", sum := "b7dc0c601fa1b9210d69657059eda3d56d34b104aa64c6880085adee983478f6", func := "payoff/payofflaw02.CalNumbers", spec := "calNumbers", named := ["payoff/cal.months"], apart := false, laid := [("payoff/cal.months", laid_payoff_cal_months)] }
def CalNumbersSaid : Prop := calNumbersRow.holds Tryd.pinned (OpenSpec.ofChange calNumbersSpec)

/-- ITS FALSE NEIGHBOUR: 'it returns false'. Refute it at one input. -/
def calNumbersWrong : ChangeSpec := { name := "calNumbers", fn := fun _ => fun
  | [d1, d2] => { results := [.lit (.bool false)], args := [d1, d2] }
  | _ => none }
def CalNumbersWrongFalsely : Prop := calNumbersRow.holds Tryd.pinned (OpenSpec.ofChange calNumbersWrong)

/-- 'payofflaw02.CalTexts': WHATEVER THE INPUT: true; the input reads as it did. -/
def calTextsSpec : ChangeSpec := { name := "calTexts", fn := fun _ => fun
  | [d1, d2] => { results := [.lit (.bool true)], args := [d1, d2] }
  | _ => none }
def calTextsRow : OpenClaim := { program := "ytdebllinaffceaadoor", sum := "b7dc0c601fa1b9210d69657059eda3d56d34b104aa64c6880085adee983478f6", func := "payoff/payofflaw02.CalTexts", spec := "calTexts", recurses := true, named := ["payoff/cal.months"], apart := false, laid := [("payoff/cal.months", laid_payoff_cal_months)] }
def CalTextsSaid : Prop := calTextsRow.holds Tryd.pinned (OpenSpec.ofChange calTextsSpec)

/-- ITS FALSE NEIGHBOUR: 'it returns false'. Refute it at one input. -/
def calTextsWrong : ChangeSpec := { name := "calTexts", fn := fun _ => fun
  | [d1, d2] => { results := [.lit (.bool false)], args := [d1, d2] }
  | _ => none }
def CalTextsWrongFalsely : Prop := calTextsRow.holds Tryd.pinned (OpenSpec.ofChange calTextsWrong)

/-- 'payofflaw02.CalAdds': WHATEVER THE INPUT: true; the input reads as it did. -/
def calAddsSpec : ChangeSpec := { name := "calAdds", fn := fun _ => fun
  | [d1, d2, d3] => { results := [.lit (.bool true)], args := [d1, d2, d3] }
  | _ => none }
def calAddsRow : OpenClaim := { program := "ytdebllinaffceaadoor", sum := "b7dc0c601fa1b9210d69657059eda3d56d34b104aa64c6880085adee983478f6", func := "payoff/payofflaw02.CalAdds", spec := "calAdds", named := ["payoff/cal.months"], apart := false, laid := [("payoff/cal.months", laid_payoff_cal_months)] }
def CalAddsSaid : Prop := calAddsRow.holds Tryd.pinned (OpenSpec.ofChange calAddsSpec)

/-- ITS FALSE NEIGHBOUR: 'it returns false'. Refute it at one input. -/
def calAddsWrong : ChangeSpec := { name := "calAdds", fn := fun _ => fun
  | [d1, d2, d3] => { results := [.lit (.bool false)], args := [d1, d2, d3] }
  | _ => none }
def CalAddsWrongFalsely : Prop := calAddsRow.holds Tryd.pinned (OpenSpec.ofChange calAddsWrong)

/-- 'payofflaw02.CalTenors': WHATEVER THE INPUT: true; the input reads as it did. -/
def calTenorsSpec : ChangeSpec := { name := "calTenors", fn := fun _ => fun
  | [d1, d2, d3] => { results := [.lit (.bool true)], args := [d1, d2, d3] }
  | _ => none }
def calTenorsRow : OpenClaim := { program := "ytdebllinaffceaadoor", sum := "b7dc0c601fa1b9210d69657059eda3d56d34b104aa64c6880085adee983478f6", func := "payoff/payofflaw02.CalTenors", spec := "calTenors", named := ["payoff/cal.months"], apart := false, laid := [("payoff/cal.months", laid_payoff_cal_months)] }
def CalTenorsSaid : Prop := calTenorsRow.holds Tryd.pinned (OpenSpec.ofChange calTenorsSpec)

/-- ITS FALSE NEIGHBOUR: 'it returns false'. Refute it at one input. -/
def calTenorsWrong : ChangeSpec := { name := "calTenors", fn := fun _ => fun
  | [d1, d2, d3] => { results := [.lit (.bool false)], args := [d1, d2, d3] }
  | _ => none }
def CalTenorsWrongFalsely : Prop := calTenorsRow.holds Tryd.pinned (OpenSpec.ofChange calTenorsWrong)

/-- 'payofflaw02.CalThereAndBack': WHATEVER THE INPUT: true; the input reads as it did. -/
def calThereAndBackSpec : ChangeSpec := { name := "calThereAndBack", fn := fun _ => fun
  | [d] => { results := [.lit (.bool true)], args := [d] }
  | _ => none }
def calThereAndBackRow : OpenClaim := { program := "ytdebllinaffceaadoor", sum := "b7dc0c601fa1b9210d69657059eda3d56d34b104aa64c6880085adee983478f6", func := "payoff/payofflaw02.CalThereAndBack", spec := "calThereAndBack", recurses := true, named := ["payoff/cal.months"], apart := false, laid := [("payoff/cal.months", laid_payoff_cal_months)] }
def CalThereAndBackSaid : Prop := calThereAndBackRow.holds Tryd.pinned (OpenSpec.ofChange calThereAndBackSpec)

/-- ITS FALSE NEIGHBOUR: 'it returns false'. Refute it at one input. -/
def calThereAndBackWrong : ChangeSpec := { name := "calThereAndBack", fn := fun _ => fun
  | [d] => { results := [.lit (.bool false)], args := [d] }
  | _ => none }
def CalThereAndBackWrongFalsely : Prop := calThereAndBackRow.holds Tryd.pinned (OpenSpec.ofChange calThereAndBackWrong)

/-- 'payofflaw02.CalMoves': WHATEVER THE INPUT: true; the input reads as it did. -/
def calMovesSpec : ChangeSpec := { name := "calMoves", fn := fun _ => fun
  | [d1, d2, d3] => { results := [.lit (.bool true)], args := [d1, d2, d3] }
  | _ => none }
def calMovesRow : OpenClaim := { program := "ytdebllinaffceaadoor", sum := "b7dc0c601fa1b9210d69657059eda3d56d34b104aa64c6880085adee983478f6", func := "payoff/payofflaw02.CalMoves", spec := "calMoves", unfollowed := true, recurses := true, named := ["payoff/cal.months"], apart := false, laid := [("payoff/cal.months", laid_payoff_cal_months)] }
def CalMovesSaid : Prop := calMovesRow.holds Tryd.pinned (OpenSpec.ofChange calMovesSpec)

/-- ITS FALSE NEIGHBOUR: 'it returns false'. Refute it at one input. -/
def calMovesWrong : ChangeSpec := { name := "calMoves", fn := fun _ => fun
  | [d1, d2, d3] => { results := [.lit (.bool false)], args := [d1, d2, d3] }
  | _ => none }
def CalMovesWrongFalsely : Prop := calMovesRow.holds Tryd.pinned (OpenSpec.ofChange calMovesWrong)

/-- 'payofflaw02.CalNearest': WHATEVER THE INPUT: true; the input reads as it did. -/
def calNearestSpec : ChangeSpec := { name := "calNearest", fn := fun _ => fun
  | [d1, d2, d3] => { results := [.lit (.bool true)], args := [d1, d2, d3] }
  | _ => none }
def calNearestRow : OpenClaim := { program := "ytdebllinaffceaadoor", sum := "b7dc0c601fa1b9210d69657059eda3d56d34b104aa64c6880085adee983478f6", func := "payoff/payofflaw02.CalNearest", spec := "calNearest", unfollowed := true, recurses := true, named := ["payoff/cal.months"], apart := false, laid := [("payoff/cal.months", laid_payoff_cal_months)] }
def CalNearestSaid : Prop := calNearestRow.holds Tryd.pinned (OpenSpec.ofChange calNearestSpec)

/-- ITS FALSE NEIGHBOUR: 'it returns false'. Refute it at one input. -/
def calNearestWrong : ChangeSpec := { name := "calNearest", fn := fun _ => fun
  | [d1, d2, d3] => { results := [.lit (.bool false)], args := [d1, d2, d3] }
  | _ => none }
def CalNearestWrongFalsely : Prop := calNearestRow.holds Tryd.pinned (OpenSpec.ofChange calNearestWrong)

/-- 'payofflaw02.CalSchedules': WHATEVER THE INPUT: true; the input reads as it did. -/
def calSchedulesSpec : ChangeSpec := { name := "calSchedules", fn := fun _ => fun
  | [d] => { results := [.lit (.bool true)], args := [d] }
  | _ => none }
def calSchedulesRow : OpenClaim := { program := "ytdebllinaffceaadoor", sum := "b7dc0c601fa1b9210d69657059eda3d56d34b104aa64c6880085adee983478f6", func := "payoff/payofflaw02.CalSchedules", spec := "calSchedules", unfollowed := true, recurses := true, named := ["payoff/cal.months"], apart := false, laid := [("payoff/cal.months", laid_payoff_cal_months)] }
def CalSchedulesSaid : Prop := calSchedulesRow.holds Tryd.pinned (OpenSpec.ofChange calSchedulesSpec)

/-- ITS FALSE NEIGHBOUR: 'it returns false'. Refute it at one input. -/
def calSchedulesWrong : ChangeSpec := { name := "calSchedules", fn := fun _ => fun
  | [d] => { results := [.lit (.bool false)], args := [d] }
  | _ => none }
def CalSchedulesWrongFalsely : Prop := calSchedulesRow.holds Tryd.pinned (OpenSpec.ofChange calSchedulesWrong)

/-- 'payofflaw02.CalScheduled': WHATEVER THE INPUT: true; the input reads as it did. -/
def calScheduledSpec : ChangeSpec := { name := "calScheduled", fn := fun _ => fun
  | [d] => { results := [.lit (.bool true)], args := [d] }
  | _ => none }
def calScheduledRow : OpenClaim := { program := "ytdebllinaffceaadoor", sum := "b7dc0c601fa1b9210d69657059eda3d56d34b104aa64c6880085adee983478f6", func := "payoff/payofflaw02.CalScheduled", spec := "calScheduled", unfollowed := true, recurses := true, named := ["payoff/cal.months"], apart := false, laid := [("payoff/cal.months", laid_payoff_cal_months)] }
def CalScheduledSaid : Prop := calScheduledRow.holds Tryd.pinned (OpenSpec.ofChange calScheduledSpec)

/-- ITS FALSE NEIGHBOUR: 'it returns false'. Refute it at one input. -/
def calScheduledWrong : ChangeSpec := { name := "calScheduled", fn := fun _ => fun
  | [d] => { results := [.lit (.bool false)], args := [d] }
  | _ => none }
def CalScheduledWrongFalsely : Prop := calScheduledRow.holds Tryd.pinned (OpenSpec.ofChange calScheduledWrong)

/- THE SECOND FORM. 'bulk': how many values and letters a reading holds, each counted each time it is reached (what is shared counts as often as it is met; a slice's spare places count too). A statement '..UptoSaid' is the law's where the arguments, and the package variables that the reading takes, are together of bulk at most 1048576: NARROWER than '..Said'. Prove '..Said' where nothing that the law and all that it calls make is longer than what came in: it says more and counts as full. Else prove '..UptoSaid'. A law counts once. -/
mutual
def uptoBulk {H : Type} : DataW H → Nat
  | .lit (.string bytes) => bytes.length + 1
  | .lit _ => 1
  | .nil => 1
  | .ptr d => uptoBulk d + 1
  | .slice elems spare => uptoBulkAll elems + uptoBulkAll spare + 1
  | .agg parts => uptoBulkAll parts + 1
  | .iface _ d => uptoBulk d + 1
  | .map entries => uptoBulkEntries entries + 1
  | .held _ => 1
def uptoBulkAll {H : Type} : List (DataW H) → Nat
  | [] => 0
  | d :: r => uptoBulk d + uptoBulkAll r
def uptoBulkEntries {H : Type} : List (Lit × DataW H) → Nat
  | [] => 0
  | x :: r => uptoBulkEntry x + uptoBulkEntries r
def uptoBulkEntry {H : Type} : Lit × DataW H → Nat
  | (.string bytes, d) => bytes.length + uptoBulk d + 1
  | (_, d) => uptoBulk d + 1
 end
def uptoSmall : (H : Type) → List (DataW H) → Bool := fun _ ds => decide (uptoBulkAll ds ≤ 1048576)
def OpenSpec.upto (s : _root_.Go.ChangeSpec) : _root_.Go.OpenSpec := { _root_.Go.OpenSpec.ofChange s with cond := some uptoSmall }

/-- 'payofflaw02.CalThirds', WHERE WHAT IT READS IS OF BULK AT MOST 1048576: true; the input reads as it did. -/
def calThirdsUptoRow : OpenClaim := { program := "ytdebllinaffceaadoor", sum := "b7dc0c601fa1b9210d69657059eda3d56d34b104aa64c6880085adee983478f6", func := "payoff/payofflaw02.CalThirds", spec := "calThirds", named := ["payoff/cal.months"], apart := false, laid := [("payoff/cal.months", laid_payoff_cal_months)], narrowed := true }
def CalThirdsUptoSaid : Prop := calThirdsUptoRow.holds Tryd.pinned (OpenSpec.upto calThirdsSpec)

/-- 'payofflaw02.CalSixty', WHERE WHAT IT READS IS OF BULK AT MOST 1048576: true; the input reads as it did. -/
def calSixtyUptoRow : OpenClaim := { program := "ytdebllinaffceaadoor", sum := "b7dc0c601fa1b9210d69657059eda3d56d34b104aa64c6880085adee983478f6", func := "payoff/payofflaw02.CalSixty", spec := "calSixty", named := ["payoff/cal.months"], apart := false, laid := [("payoff/cal.months", laid_payoff_cal_months)], narrowed := true }
def CalSixtyUptoSaid : Prop := calSixtyUptoRow.holds Tryd.pinned (OpenSpec.upto calSixtySpec)

/-- 'payofflaw02.CalOne', WHERE WHAT IT READS IS OF BULK AT MOST 1048576: true; the input reads as it did. -/
def calOneUptoRow : OpenClaim := { program := "ytdebllinaffceaadoor", sum := "b7dc0c601fa1b9210d69657059eda3d56d34b104aa64c6880085adee983478f6", func := "payoff/payofflaw02.CalOne", spec := "calOne", named := ["payoff/cal.months"], apart := false, laid := [("payoff/cal.months", laid_payoff_cal_months)], narrowed := true }
def CalOneUptoSaid : Prop := calOneUptoRow.holds Tryd.pinned (OpenSpec.upto calOneSpec)

/-- 'payofflaw02.CalNumbers', WHERE WHAT IT READS IS OF BULK AT MOST 1048576: true; the input reads as it did. -/
def calNumbersUptoRow : OpenClaim := { program := "ytdebllinaffceaadoor", sum := "b7dc0c601fa1b9210d69657059eda3d56d34b104aa64c6880085adee983478f6", func := "payoff/payofflaw02.CalNumbers", spec := "calNumbers", named := ["payoff/cal.months"], apart := false, laid := [("payoff/cal.months", laid_payoff_cal_months)], narrowed := true }
def CalNumbersUptoSaid : Prop := calNumbersUptoRow.holds Tryd.pinned (OpenSpec.upto calNumbersSpec)

/-- 'payofflaw02.CalTexts', WHERE WHAT IT READS IS OF BULK AT MOST 1048576: true; the input reads as it did. -/
def calTextsUptoRow : OpenClaim := { program := "ytdebllinaffceaadoor", sum := "b7dc0c601fa1b9210d69657059eda3d56d34b104aa64c6880085adee983478f6", func := "payoff/payofflaw02.CalTexts", spec := "calTexts", recurses := true, named := ["payoff/cal.months"], apart := false, laid := [("payoff/cal.months", laid_payoff_cal_months)], narrowed := true }
def CalTextsUptoSaid : Prop := calTextsUptoRow.holds Tryd.pinned (OpenSpec.upto calTextsSpec)

/-- 'payofflaw02.CalAdds', WHERE WHAT IT READS IS OF BULK AT MOST 1048576: true; the input reads as it did. -/
def calAddsUptoRow : OpenClaim := { program := "ytdebllinaffceaadoor", sum := "b7dc0c601fa1b9210d69657059eda3d56d34b104aa64c6880085adee983478f6", func := "payoff/payofflaw02.CalAdds", spec := "calAdds", named := ["payoff/cal.months"], apart := false, laid := [("payoff/cal.months", laid_payoff_cal_months)], narrowed := true }
def CalAddsUptoSaid : Prop := calAddsUptoRow.holds Tryd.pinned (OpenSpec.upto calAddsSpec)

/-- 'payofflaw02.CalTenors', WHERE WHAT IT READS IS OF BULK AT MOST 1048576: true; the input reads as it did. -/
def calTenorsUptoRow : OpenClaim := { program := "ytdebllinaffceaadoor", sum := "b7dc0c601fa1b9210d69657059eda3d56d34b104aa64c6880085adee983478f6", func := "payoff/payofflaw02.CalTenors", spec := "calTenors", named := ["payoff/cal.months"], apart := false, laid := [("payoff/cal.months", laid_payoff_cal_months)], narrowed := true }
def CalTenorsUptoSaid : Prop := calTenorsUptoRow.holds Tryd.pinned (OpenSpec.upto calTenorsSpec)

/-- 'payofflaw02.CalThereAndBack', WHERE WHAT IT READS IS OF BULK AT MOST 1048576: true; the input reads as it did. -/
def calThereAndBackUptoRow : OpenClaim := { program := "ytdebllinaffceaadoor", sum := "b7dc0c601fa1b9210d69657059eda3d56d34b104aa64c6880085adee983478f6", func := "payoff/payofflaw02.CalThereAndBack", spec := "calThereAndBack", recurses := true, named := ["payoff/cal.months"], apart := false, laid := [("payoff/cal.months", laid_payoff_cal_months)], narrowed := true }
def CalThereAndBackUptoSaid : Prop := calThereAndBackUptoRow.holds Tryd.pinned (OpenSpec.upto calThereAndBackSpec)

/-- 'payofflaw02.CalMoves', WHERE WHAT IT READS IS OF BULK AT MOST 1048576: true; the input reads as it did. -/
def calMovesUptoRow : OpenClaim := { program := "ytdebllinaffceaadoor", sum := "b7dc0c601fa1b9210d69657059eda3d56d34b104aa64c6880085adee983478f6", func := "payoff/payofflaw02.CalMoves", spec := "calMoves", unfollowed := true, recurses := true, named := ["payoff/cal.months"], apart := false, laid := [("payoff/cal.months", laid_payoff_cal_months)], narrowed := true }
def CalMovesUptoSaid : Prop := calMovesUptoRow.holds Tryd.pinned (OpenSpec.upto calMovesSpec)

/-- 'payofflaw02.CalNearest', WHERE WHAT IT READS IS OF BULK AT MOST 1048576: true; the input reads as it did. -/
def calNearestUptoRow : OpenClaim := { program := "ytdebllinaffceaadoor", sum := "b7dc0c601fa1b9210d69657059eda3d56d34b104aa64c6880085adee983478f6", func := "payoff/payofflaw02.CalNearest", spec := "calNearest", unfollowed := true, recurses := true, named := ["payoff/cal.months"], apart := false, laid := [("payoff/cal.months", laid_payoff_cal_months)], narrowed := true }
def CalNearestUptoSaid : Prop := calNearestUptoRow.holds Tryd.pinned (OpenSpec.upto calNearestSpec)

/-- 'payofflaw02.CalSchedules', WHERE WHAT IT READS IS OF BULK AT MOST 1048576: true; the input reads as it did. -/
def calSchedulesUptoRow : OpenClaim := { program := "ytdebllinaffceaadoor", sum := "b7dc0c601fa1b9210d69657059eda3d56d34b104aa64c6880085adee983478f6", func := "payoff/payofflaw02.CalSchedules", spec := "calSchedules", unfollowed := true, recurses := true, named := ["payoff/cal.months"], apart := false, laid := [("payoff/cal.months", laid_payoff_cal_months)], narrowed := true }
def CalSchedulesUptoSaid : Prop := calSchedulesUptoRow.holds Tryd.pinned (OpenSpec.upto calSchedulesSpec)

/-- 'payofflaw02.CalScheduled', WHERE WHAT IT READS IS OF BULK AT MOST 1048576: true; the input reads as it did. -/
def calScheduledUptoRow : OpenClaim := { program := "ytdebllinaffceaadoor", sum := "b7dc0c601fa1b9210d69657059eda3d56d34b104aa64c6880085adee983478f6", func := "payoff/payofflaw02.CalScheduled", spec := "calScheduled", unfollowed := true, recurses := true, named := ["payoff/cal.months"], apart := false, laid := [("payoff/cal.months", laid_payoff_cal_months)], narrowed := true }
def CalScheduledUptoSaid : Prop := calScheduledUptoRow.holds Tryd.pinned (OpenSpec.upto calScheduledSpec)

end Rows
end Go.Proofs.YtdebllinaffceaaDoor
