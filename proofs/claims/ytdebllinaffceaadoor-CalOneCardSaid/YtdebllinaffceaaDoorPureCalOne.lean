/- For any date: if it exists, its number's date is itself (so no two dates have one number); else Day refuses it; the first and the last date have the numbers 0 and 109572. The argument reads as before. The package-level table cal.months is tied to the program's text. No other condition. -/
import Derived.Test.YtdebllinaffceaaDoorPlainD
import Derived.Test.YtdebllinaffceaaDoorMPayofflaw02CalOne
namespace Go.Proofs.YtdebllinaffceaaDoor.Pure
open Go.RowKit Go.Proofs.YtdebllinaffceaaDoor.M Go.Proofs.YtdebllinaffceaaDoor.Plain Go.Proofs.YtdebllinaffceaaDoorW.PrintWords Go.Proofs.YtdebllinaffceaaDoorW.PrintLast

theorem CalOne (a0_0 a0_1 a0_2 : Int) (_ : (Lit.int .i64 a0_0).wf = true) (_ : (Lit.int .i64 a0_1).wf = true) (_ : (Lit.int .i64 a0_2).wf = true) :
    ∃ k, payofflaw02_CalOne.f k a0_0 a0_1 a0_2 = some true := by
  refine ⟨330, ?_⟩
  unfold payofflaw02_CalOne.f
  have e1 : cal_Day.f (317 + 13) 1900 1 1 = some (0, 0) := by
    rw [day_in 317 1900 1 1 (by decide)]; rfl
  have e2 : cal_Day.f (317 + 13) 2199 12 31 = some (109572, 0) := by
    rw [day_in 317 2199 12 31 (by decide)]; rfl
  rw [e1, e2]
  cases h : ok a0_0 a0_1 a0_2 with
  | true =>
    rw [day_in 317 _ _ _ h]
    simp only [Option.bind_some, payofflaw02_num.f, if_true, bne_self_eq_false, payofflaw02_CalOne.j0, Bool.false_eq_true, if_false]
    rw [date_num 9 _ _ _ h]
    simp
  | false =>
    rw [day_out _ _ _ _ h]
    simp [payofflaw02_num.f, payofflaw02_CalOne.j0]

end Go.Proofs.YtdebllinaffceaaDoor.Pure
