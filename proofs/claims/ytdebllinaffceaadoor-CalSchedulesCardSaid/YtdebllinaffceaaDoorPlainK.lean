/- The given functions Date and Day as plain functions. -/
import Derived.Test.YtdebllinaffceaaDoorVWords
import Derived.Test.YtdebllinaffceaaDoorPlainD
namespace Go.Proofs.YtdebllinaffceaaDoor.Plain
open Go.RowKit Go.Proofs.YtdebllinaffceaaDoor.M Go.Proofs.YtdebllinaffceaaDoorW.PrintWords Go.Proofs.YtdebllinaffceaaDoorW.PrintLast

/-- The date with a number, and the error. -/
def dateV (day : Int) : Int × Int × Int × Int := (cal_Date.f 320 day).getD (0, 0, 0, 2)

theorem dateV_in (day : Int) (h0 : 0 ≤ day) (h9 : day ≤ 109572) : ∃ y m d, dateV day = (y, m, d, 0) ∧ ok y m d = true ∧ num y m d = day := by
  obtain ⟨y, m, d, e, o, q⟩ := date_in 0 day h0 h9
  exact ⟨y, m, d, by unfold dateV; rw [e]; rfl, o, q⟩

theorem dateV_out (day : Int) (h : ¬ (0 ≤ day ∧ day ≤ 109572)) : dateV day = (0, 0, 0, 2) := by
  unfold dateV; rw [date_out _ _ h]; rfl

theorem dateV_num (y m d : Int) (h : ok y m d = true) : dateV (num y m d) = (y, m, d, 0) := by
  unfold dateV; rw [date_num 0 _ _ _ h]; rfl

theorem date_eq (k : Nat) (day : Int) : cal_Date.f (k + 320) day = some (dateV day) := by
  by_cases h : 0 ≤ day ∧ day ≤ 109572
  · obtain ⟨y, m, d, e, o, q⟩ := dateV_in day h.1 h.2
    rw [e, ← q]; exact date_num k y m d o
  · rw [date_out _ _ h, dateV_out _ h]

/-- A date's number, and the error. -/
def dayV (y m d : Int) : Int × Int := if ok y m d then (num y m d, 0) else (0, 21)

theorem day_eq (k : Nat) (y m d : Int) : cal_Day.f (k + 13) y m d = some (dayV y m d) := by
  unfold dayV
  cases h : ok y m d with
  | true => rw [day_in k _ _ _ h]; rfl
  | false => rw [day_out _ _ _ _ h]; rfl

end Go.Proofs.YtdebllinaffceaaDoor.Plain
