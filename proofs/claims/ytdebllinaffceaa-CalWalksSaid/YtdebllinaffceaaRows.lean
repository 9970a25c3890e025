/-
  No cell of these rows narrows 'for every input' (looked for: loops, veiled, ifaces, maps, wideKeys, modest, calm, conditions, laid).
  DERIVED. THE GIVEN ROWS OF THIS SEAT. 3 by the template 'for every input the law returns true; each argument reads behind the call as it read before'; 0 by the template 'total and deterministic' (their statements: YtdebllinaffceaaTotals.lean).
  GIVEN WITH THE SEED: the statements are not yours to turn. If you find one false, say at which input.
  Laid BY PROGRAM, IN A SANDBOX (cutbox-rows.mjs): the forced cells as the released guide's own fill.sh prints them over the translation 95a2d45a0a8e434c… (all of the seat's roots in one cut). By AI agents, Wed Nov 11 2026. No macro, syntax, notation, axiom, sorry.
-/
import Derived.Test.YtdebllinaffceaaChecked
import GoSem.Claim
import GoSem.ClaimJoined
import GoSem.ClaimMapViews
import Derived.JoinedTies
import Derived.KernelRfl
namespace Go.Proofs.Ytdebllinaffceaa
/- THE CELL 'sum', in the pinned program and in every row, IS THE sha256 OF THE DUMP (.gsa) THAT YtdebllinaffceaaProg.lean LOADS. Nothing in Lean hashes anything: it is a label: what it is worth is what the hold of that sum in a sandbox is worth. -/
noncomputable def Try.pinned : Pinned := { name := "ytdebllinaffceaa", sum := "95a2d45a0a8e434c4c9c60449fd5cc4225a3530e111ab2cd7ecf87081eaab799", checked := Try.checked }
namespace Rows
def none {H : Type} : Left H := { results := [], args := [] }

/-- 'payofflaw02.CalWeeks': WHATEVER THE INPUT: true; the input reads as it did. -/
def calWeeksSpec : ChangeSpec := { name := "calWeeks", fn := fun _ => fun
  | [d] => { results := [.lit (.bool true)], args := [d] }
  | _ => none }
def calWeeksRow : OpenClaim := { program := "ytdebllinaffceaa", sum := "95a2d45a0a8e434c4c9c60449fd5cc4225a3530e111ab2cd7ecf87081eaab799", func := "payoff/payofflaw02.CalWeeks", spec := "calWeeks", apart := false }
def CalWeeksSaid : Prop := calWeeksRow.holds Try.pinned (OpenSpec.ofChange calWeeksSpec)

/-- ITS FALSE NEIGHBOUR: 'it returns false'. Refute it at one input. -/
def calWeeksWrong : ChangeSpec := { name := "calWeeks", fn := fun _ => fun
  | [d] => { results := [.lit (.bool false)], args := [d] }
  | _ => none }
def CalWeeksWrongFalsely : Prop := calWeeksRow.holds Try.pinned (OpenSpec.ofChange calWeeksWrong)

/-- 'payofflaw02.CalWalks': WHATEVER THE INPUT: true; the input reads as it did. -/
def calWalksSpec : ChangeSpec := { name := "calWalks", fn := fun _ => fun
  | [d1, d2, d3, d4, d5] => { results := [.lit (.bool true)], args := [d1, d2, d3, d4, d5] }
  | _ => none }
def calWalksRow : OpenClaim := { program := "ytdebllinaffceaa", sum := "95a2d45a0a8e434c4c9c60449fd5cc4225a3530e111ab2cd7ecf87081eaab799", func := "payoff/payofflaw02.CalWalks", spec := "calWalks", unfollowed := true, recurses := true, apart := false }
def CalWalksSaid : Prop := calWalksRow.holds Try.pinned (OpenSpec.ofChange calWalksSpec)

/-- ITS FALSE NEIGHBOUR: 'it returns false'. Refute it at one input. -/
def calWalksWrong : ChangeSpec := { name := "calWalks", fn := fun _ => fun
  | [d1, d2, d3, d4, d5] => { results := [.lit (.bool false)], args := [d1, d2, d3, d4, d5] }
  | _ => none }
def CalWalksWrongFalsely : Prop := calWalksRow.holds Try.pinned (OpenSpec.ofChange calWalksWrong)

/-- 'payofflaw02.CalTiles': WHATEVER THE INPUT: true; the input reads as it did. -/
def calTilesSpec : ChangeSpec := { name := "calTiles", fn := fun _ => fun
  | [d1, d2, d3, d4] => { results := [.lit (.bool true)], args := [d1, d2, d3, d4] }
  | _ => none }
def calTilesRow : OpenClaim := { program := "ytdebllinaffceaa", sum := "95a2d45a0a8e434c4c9c60449fd5cc4225a3530e111ab2cd7ecf87081eaab799", func := "payoff/payofflaw02.CalTiles", spec := "calTiles", unfollowed := true, recurses := true, apart := false }
def CalTilesSaid : Prop := calTilesRow.holds Try.pinned (OpenSpec.ofChange calTilesSpec)

/-- ITS FALSE NEIGHBOUR: 'it returns false'. Refute it at one input. -/
def calTilesWrong : ChangeSpec := { name := "calTiles", fn := fun _ => fun
  | [d1, d2, d3, d4] => { results := [.lit (.bool false)], args := [d1, d2, d3, d4] }
  | _ => none }
def CalTilesWrongFalsely : Prop := calTilesRow.holds Try.pinned (OpenSpec.ofChange calTilesWrong)

/- THE SECOND FORM. 'bulk': how many values and letters a reading holds, each counted each time it is reached (what is shared counts as often as it is met; a slice's spare places count too). A statement '..UptoSaid' is the law's where the arguments, and the package variables that the reading takes, are together of bulk at most 1048576: NARROWER than '..Said'. Prove '..Said' where nothing that the law and all that it calls make is longer than what came in: it says more and counts as full. Else prove '..UptoSaid'. A law counts once. -/
mutual
def uptoBulk {H : Type} : DataW H → Nat
  | .lit (.string bytes) => bytes.length + 1
  | .lit _ => 1
  | .nil => 1
  | .ptr d => uptoBulk d + 1
  | .slice elems spare => uptoBulkAll elems + uptoBulkAll spare + 1
  | .agg parts => uptoBulkAll parts + 1
  | .iface _ d => uptoBulk d + 1
  | .map entries => uptoBulkEntries entries + 1
  | .held _ => 1
def uptoBulkAll {H : Type} : List (DataW H) → Nat
  | [] => 0
  | d :: r => uptoBulk d + uptoBulkAll r
def uptoBulkEntries {H : Type} : List (Lit × DataW H) → Nat
  | [] => 0
  | x :: r => uptoBulkEntry x + uptoBulkEntries r
def uptoBulkEntry {H : Type} : Lit × DataW H → Nat
  | (.string bytes, d) => bytes.length + uptoBulk d + 1
  | (_, d) => uptoBulk d + 1
 end
def uptoSmall : (H : Type) → List (DataW H) → Bool := fun _ ds => decide (uptoBulkAll ds ≤ 1048576)
def OpenSpec.upto (s : _root_.Go.ChangeSpec) : _root_.Go.OpenSpec := { _root_.Go.OpenSpec.ofChange s with cond := some uptoSmall }

/-- 'payofflaw02.CalWeeks', WHERE WHAT IT READS IS OF BULK AT MOST 1048576: true; the input reads as it did. -/
def calWeeksUptoRow : OpenClaim := { program := "ytdebllinaffceaa", sum := "95a2d45a0a8e434c4c9c60449fd5cc4225a3530e111ab2cd7ecf87081eaab799", func := "payoff/payofflaw02.CalWeeks", spec := "calWeeks", apart := false, narrowed := true }
def CalWeeksUptoSaid : Prop := calWeeksUptoRow.holds Try.pinned (OpenSpec.upto calWeeksSpec)

/-- 'payofflaw02.CalWalks', WHERE WHAT IT READS IS OF BULK AT MOST 1048576: true; the input reads as it did. -/
def calWalksUptoRow : OpenClaim := { program := "ytdebllinaffceaa", sum := "95a2d45a0a8e434c4c9c60449fd5cc4225a3530e111ab2cd7ecf87081eaab799", func := "payoff/payofflaw02.CalWalks", spec := "calWalks", unfollowed := true, recurses := true, apart := false, narrowed := true }
def CalWalksUptoSaid : Prop := calWalksUptoRow.holds Try.pinned (OpenSpec.upto calWalksSpec)

/-- 'payofflaw02.CalTiles', WHERE WHAT IT READS IS OF BULK AT MOST 1048576: true; the input reads as it did. -/
def calTilesUptoRow : OpenClaim := { program := "ytdebllinaffceaa", sum := "95a2d45a0a8e434c4c9c60449fd5cc4225a3530e111ab2cd7ecf87081eaab799", func := "payoff/payofflaw02.CalTiles", spec := "calTiles", unfollowed := true, recurses := true, apart := false, narrowed := true }
def CalTilesUptoSaid : Prop := calTilesUptoRow.holds Try.pinned (OpenSpec.upto calTilesSpec)

end Rows
end Go.Proofs.Ytdebllinaffceaa
