/- For any date, tenor and number cal.Add and the document's Add answer the same date and the same error. The arguments read as before. The package-level table cal.months is tied to the program's text. No other condition. -/
import Derived.Test.YtdebllinaffceaaDoorPlainF
import Derived.Test.YtdebllinaffceaaDoorMPayofflaw02CalAdds
namespace Go.Proofs.YtdebllinaffceaaDoor.Pure
open Go.RowKit Go.Proofs.YtdebllinaffceaaDoor.M Go.Proofs.YtdebllinaffceaaDoor.Plain Go.Proofs.YtdebllinaffceaaDoorW.PrintWords Go.Proofs.YtdebllinaffceaaDoorW.PrintLast

theorem CalAdds (a0_0 a0_1 a0_2 a1_0 a1_1 a2 : Int) (_ : (Lit.int .i64 a0_0).wf = true) (_ : (Lit.int .i64 a0_1).wf = true) (_ : (Lit.int .i64 a0_2).wf = true) (_ : (Lit.int .i64 a1_0).wf = true) (_ : (Lit.int .i64 a1_1).wf = true) (_ : (Lit.int .i64 a2).wf = true) :
    ∃ k, payofflaw02_CalAdds.f k a0_0 a0_1 a0_2 a1_0 a1_1 a2 = some true := by
  refine ⟨330, ?_⟩
  unfold payofflaw02_CalAdds.f
  have e1 : cal_Add.f 330 a0_0 a0_1 a0_2 a1_0 a1_1 a2 = _ := add_eq 10 a0_0 a0_1 a0_2 a1_0 a1_1 a2
  have e2 : payoffref02_Add.f 330 a0_0 a0_1 a0_2 a1_0 a1_1 a2 = _ := radd_eq 0 a0_0 a0_1 a0_2 a1_0 a1_1 a2
  rw [e1, e2]
  simp

end Go.Proofs.YtdebllinaffceaaDoor.Pure
