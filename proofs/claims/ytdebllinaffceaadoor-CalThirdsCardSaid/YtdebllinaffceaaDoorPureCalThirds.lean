/- For any two dates cal.Thirty and the document's Thirty answer the same number and the same error; the arguments read as before. The package-level table cal.months is tied to the program's text. No other condition. -/
import Derived.Test.YtdebllinaffceaaDoorPlainB
import Derived.Test.YtdebllinaffceaaDoorMPayofflaw02CalThirds
namespace Go.Proofs.YtdebllinaffceaaDoor.Pure
open Go.RowKit Go.Proofs.YtdebllinaffceaaDoor.M Go.Proofs.YtdebllinaffceaaDoor.Plain Go.Proofs.YtdebllinaffceaaDoorW.PrintWords Go.Proofs.YtdebllinaffceaaDoorW.PrintLast

theorem rthirty_in (k : Nat) (y1 m1 d1 y2 m2 d2 : Int) (h1 : ok y1 m1 d1 = true) (h2 : ok y2 m2 d2 = true) :
    payoffref02_Thirty.f (k + 2) y1 m1 d1 y2 m2 d2 = some (thirty y1 m1 d1 y2 m2 d2, 0) := by
  unfold payoffref02_Thirty.f
  have hd := ok_le _ _ _ h1
  rw [is_eq, is_eq, h1, h2]
  simp only [Option.bind_some, payoffref02_Thirty.j0, Bool.not_true, Bool.false_eq_true, if_true, if_false]
  unfold thirty
  by_cases c : d1 = 31
  · rw [if_pos c]
    by_cases c2 : d2 = 31
    · rw [if_pos c2, if_pos (show d2 = 31 ∧ 30 ≤ d1 by omega), if_pos (show 30 < d1 by omega)]
    · rw [if_neg c2, if_neg (show ¬ (d2 = 31 ∧ 30 ≤ d1) by omega), if_pos (show 30 < d1 by omega)]
  · rw [if_neg c]
    by_cases c2 : d2 = 31
    · rw [if_pos c2]
      by_cases c3 : d1 = 30
      · rw [if_pos c3, if_pos (show d2 = 31 ∧ 30 ≤ d1 by omega), if_neg (show ¬ 30 < d1 by omega)]
      · rw [if_neg c3, if_neg (show ¬ (d2 = 31 ∧ 30 ≤ d1) by omega), if_neg (show ¬ 30 < d1 by omega)]
    · rw [if_neg c2, if_neg (show ¬ (d2 = 31 ∧ 30 ≤ d1) by omega), if_neg (show ¬ 30 < d1 by omega)]

theorem rthirty_out (k : Nat) (y1 m1 d1 y2 m2 d2 : Int) (h : ¬ (ok y1 m1 d1 = true ∧ ok y2 m2 d2 = true)) :
    payoffref02_Thirty.f (k + 2) y1 m1 d1 y2 m2 d2 = some (0, 21) := by
  unfold payoffref02_Thirty.f
  rw [is_eq, is_eq]
  cases h1 : ok y1 m1 d1 with
  | false => simp [payoffref02_Thirty.j0]
  | true =>
    cases h2 : ok y2 m2 d2 with
    | false => simp [payoffref02_Thirty.j0]
    | true => exact absurd ⟨h1, h2⟩ h

theorem CalThirds (a0_0 a0_1 a0_2 a1_0 a1_1 a1_2 : Int) (_ : (Lit.int .i64 a0_0).wf = true) (_ : (Lit.int .i64 a0_1).wf = true) (_ : (Lit.int .i64 a0_2).wf = true) (_ : (Lit.int .i64 a1_0).wf = true) (_ : (Lit.int .i64 a1_1).wf = true) (_ : (Lit.int .i64 a1_2).wf = true) :
    ∃ k, payofflaw02_CalThirds.f k a0_0 a0_1 a0_2 a1_0 a1_1 a1_2 = some true := by
  refine ⟨4, ?_⟩
  unfold payofflaw02_CalThirds.f
  by_cases h : ok a0_0 a0_1 a0_2 = true ∧ ok a1_0 a1_1 a1_2 = true
  · rw [thirty_in 3 _ _ _ _ _ _ h.1 h.2, rthirty_in 2 _ _ _ _ _ _ h.1 h.2]; simp
  · rw [thirty_out 3 _ _ _ _ _ _ h, rthirty_out 2 _ _ _ _ _ _ h]; simp

end Go.Proofs.YtdebllinaffceaaDoor.Pure
