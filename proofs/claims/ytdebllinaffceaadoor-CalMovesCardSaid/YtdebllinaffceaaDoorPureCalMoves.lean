/- For any number, any convention and any list of holidays: the given functions Business and Adjust tell what the document's tell, and the list that was handed in is as it was, also behind its end. The list reads as before. The package-level table cal.months is tied to the program's text. The list takes at most the memory that the row's sized condition names. No other condition. -/
import Derived.Test.YtdebllinaffceaaDoorPlainI
import Derived.Test.YtdebllinaffceaaDoorMPayofflaw02CalMoves
namespace Go.Proofs.YtdebllinaffceaaDoor.Pure
open Go.RowKit Go.Proofs.YtdebllinaffceaaDoor.M Go.Proofs.YtdebllinaffceaaDoor.Plain Go.Proofs.YtdebllinaffceaaDoorW.PrintWords Go.Proofs.YtdebllinaffceaaDoorW.PrintLast

theorem CalMoves (a0 a1 : Int) (l2 : List Int) (_ : (Lit.int .i64 a0).wf = true) (_ : (Lit.int .i64 a1).wf = true) (hl : l2.length ≤ 17592186044000) : ∃ k, payofflaw02_CalMoves.f k a0 a1 l2 = some true := by
  refine ⟨300000 + l2.length, ?_⟩
  obtain ⟨up, hu⟩ := up_ex l2 (by omega) a0
  obtain ⟨dn, hd⟩ := dn_ex l2 (by omega) a0
  unfold payofflaw02_CalMoves.f
  rw [own_eq l2 hl _ (by omega)]
  simp only [Option.bind_some]
  rw [business_eq l2 a0 (by omega) _ (by omega), adj_eq l2 (by omega) _ a0 a1 up dn hu hd (by omega), radj_eq l2 (by omega) _ a0 a1 up dn hu hd (by omega), rbusiness_eq l2 a0 (by omega) _ (by omega)]
  simp only [Option.bind_some, beq_self_eq_true, if_true, payofflaw02_intact.f]
  rw [same_eq l2 (by omega) _ (by omega)]
  rfl

end Go.Proofs.YtdebllinaffceaaDoor.Pure
