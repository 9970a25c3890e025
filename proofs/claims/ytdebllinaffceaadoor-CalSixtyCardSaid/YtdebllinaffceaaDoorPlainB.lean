/- What the two functions for the day count by 30/360 compute. -/
import Derived.Test.YtdebllinaffceaaDoorPlainA
import Derived.Test.YtdebllinaffceaaDoorMCalThirty
namespace Go.Proofs.YtdebllinaffceaaDoor.Plain
open Go.RowKit Go.Proofs.YtdebllinaffceaaDoor.M Go.Proofs.YtdebllinaffceaaDoorW.PrintWords Go.Proofs.YtdebllinaffceaaDoorW.PrintLast Go.Proofs.YtdebllinaffceaaDoorW.PrintMore

/-- The day count of two dates that exist, in Go's own numbers. -/
def thirty (y1 m1 d1 y2 m2 d2 : Int) : Int :=
  wrap64 (wrap64 (wrap64 (wrap64 (360 * wrap64 (y2 - y1)) + wrap64 (30 * wrap64 (m2 - m1))) + (if d2 = 31 ∧ 30 ≤ d1 then 30 else d2)) - (if 30 < d1 then 30 else d1))

theorem thirty_in (k : Nat) (y1 m1 d1 y2 m2 d2 : Int) (h1 : ok y1 m1 d1 = true) (h2 : ok y2 m2 d2 = true) :
    cal_Thirty.f (k + 1) y1 m1 d1 y2 m2 d2 = some (thirty y1 m1 d1 y2 m2 d2, 0) := by
  unfold cal_Thirty.f
  rw [exists_eq, exists_eq, h1, h2]
  simp only [Option.bind_some, cal_Thirty.j0, Bool.not_true, Bool.false_eq_true, if_true, if_false]
  unfold thirty mn
  by_cases c : d2 = 31
  · rw [if_pos c]
    by_cases c1 : 30 < d1
    · rw [if_pos c1, if_pos rfl, if_pos (show d2 = 31 ∧ 30 ≤ d1 by omega)]
    · rw [if_neg c1]
      by_cases c2 : d1 = 30
      · rw [if_pos c2, if_pos (show d2 = 31 ∧ 30 ≤ d1 by omega)]
      · rw [if_neg c2, if_neg (show ¬ (d2 = 31 ∧ 30 ≤ d1) by omega)]
  · rw [if_neg c, if_neg (show ¬ (d2 = 31 ∧ 30 ≤ d1) by omega)]

theorem thirty_out (k : Nat) (y1 m1 d1 y2 m2 d2 : Int) (h : ¬ (ok y1 m1 d1 = true ∧ ok y2 m2 d2 = true)) :
    cal_Thirty.f (k + 1) y1 m1 d1 y2 m2 d2 = some (0, 21) := by
  unfold cal_Thirty.f
  rw [exists_eq, exists_eq]
  cases h1 : ok y1 m1 d1 with
  | false => simp [cal_Thirty.j0]
  | true =>
    cases h2 : ok y2 m2 d2 with
    | false => simp [cal_Thirty.j0]
    | true => exact absurd ⟨h1, h2⟩ h

theorem ok_le (y m d : Int) (h : ok y m d = true) : 1900 ≤ y ∧ y ≤ 2199 ∧ 1 ≤ m ∧ m ≤ 12 ∧ 1 ≤ d ∧ d ≤ len y m ∧ d ≤ 31 := by
  unfold ok at h
  have := of_decide_eq_true h
  have := len_pos y m
  omega

end Go.Proofs.YtdebllinaffceaaDoor.Plain
