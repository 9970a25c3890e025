/- For every number day: outside the calendar Weekday refuses it and it is no business day; inside, weekdays go round by sevens from a Monday on, and a day is a business day without holidays just if its weekday is below 5, and never if it is itself among the holidays. No condition. -/
import Derived.Test.YtdebllinaffceaaPCalWeeksx1
namespace Go.Proofs.Ytdebllinaffceaa.Pure
open Go.RowKit Go.Proofs.Ytdebllinaffceaa.PCalWeeks Go.Proofs.YtdebllinaffceaaW.PrintWords Go.Proofs.YtdebllinaffceaaW.PrintLast

theorem inside_eq (a : Int) : cal_inside.f a = some (decide (0 ≤ a ∧ a ≤ 109572)) := by
  unfold cal_inside.f
  by_cases h : a ≥ 0
  · rw [if_pos h]; congr 1; rw [decide_eq_decide]; omega
  · rw [if_neg h]; congr 1; rw [eq_comm, decide_eq_false_iff_not]; omega

theorem weekday_in (a : Int) (h : 0 ≤ a ∧ a ≤ 109572) : cal_Weekday.f a = some (a % 7, 0) := by
  unfold cal_Weekday.f
  rw [inside_eq, decide_eq_true h]; simp only [Option.bind_some, if_true]
  rw [Int.tmod_eq_emod_of_nonneg h.1]

theorem weekday_out (a : Int) (h : ¬ (0 ≤ a ∧ a ≤ 109572)) : cal_Weekday.f a = some (0, 2) := by
  unfold cal_Weekday.f
  rw [inside_eq, decide_eq_false h]; simp

theorem index_nil (k : Nat) (a : Int) : slices_Index_int_int.f (k + 1) [] a = some (-1) := by
  unfold slices_Index_int_int.f; simp only [slices_Index_int_int.l0]; rw [if_neg (by simp)]

theorem index_two (k : Nat) (a : Int) : ∃ i : Int, slices_Index_int_int.f (k + 3) [9, a] a = some i ∧ 0 ≤ i := by
  unfold slices_Index_int_int.f; simp only [slices_Index_int_int.l0]
  rw [if_pos (by simp), if_pos (by simp), if_pos (by simp)]
  by_cases h : a = rd [9, a] 0
  · rw [if_pos h]; exact ⟨_, rfl, by simp⟩
  · rw [if_neg h]
    have w : wrap64 ((0 : Int) + 1) = 1 := by unfold wrap64; omega
    rw [w]
    rw [if_pos (by simp), if_pos (by simp), if_pos (by simp)]
    have h2 : a = rd [9, a] 1 := by simp [rd]
    rw [if_pos h2]; exact ⟨_, rfl, by simp⟩

theorem business_nil (k : Nat) (a : Int) : cal_Business.f (k + 1) a [] = some (decide (0 ≤ a ∧ a ≤ 109572 ∧ a % 7 < 5)) := by
  unfold cal_Business.f
  rw [inside_eq]
  by_cases h : 0 ≤ a ∧ a ≤ 109572
  · rw [decide_eq_true h]; simp only [Option.bind_some, if_true]
    rw [Int.tmod_eq_emod_of_nonneg h.1]
    by_cases h5 : a % 7 < 5
    · rw [if_pos h5]; unfold slices_Contains_int_int.f; rw [index_nil]; simp; omega
    · rw [if_neg h5]; simp; omega
  · rw [decide_eq_false h]; simp; omega

theorem business_two (k : Nat) (a : Int) : cal_Business.f (k + 3) a [9, a] = some false := by
  unfold cal_Business.f
  rw [inside_eq]
  by_cases h : 0 ≤ a ∧ a ≤ 109572
  · rw [decide_eq_true h]; simp only [Option.bind_some, if_true]
    by_cases h5 : Int.tmod a 7 < 5
    · rw [if_pos h5]; unfold slices_Contains_int_int.f
      obtain ⟨i, hi, h0⟩ := index_two k a
      rw [hi]; simp [h0]
    · rw [if_neg h5]
  · rw [decide_eq_false h]; simp

theorem CalWeeks : payofflaw02_CalWeeks.Pure := by
  intro a _
  refine ⟨10, ?_⟩
  unfold payofflaw02_CalWeeks.f
  by_cases h : 0 ≤ a ∧ a ≤ 109572
  · rw [weekday_in a h]; simp only [Option.bind_some]
    rw [if_neg (by omega), decide_eq_false (by omega)]
    simp only [payofflaw02_CalWeeks.j0]
    rw [if_neg (by simp), weekday_in 0 (by omega)]
    simp only [Option.bind_some, payofflaw02_num.f]
    rw [if_pos trivial, if_pos trivial, if_pos (by decide), if_neg (by omega), decide_eq_false (by omega)]
    simp only [payofflaw02_CalWeeks.j1]
    rw [if_neg (by simp)]
    by_cases hl : a < 109572
    · rw [if_pos hl]
      have w : wrap64 (a + 1) = a + 1 := by unfold wrap64; omega
      rw [w, weekday_in (a + 1) (by omega)]
      simp only [Option.bind_some, payofflaw02_num.f]
      rw [if_pos trivial]
      have w2 : wrap64 (a % 7 + 1) = a % 7 + 1 := by unfold wrap64; omega
      rw [w2, Int.tmod_eq_emod_of_nonneg (by omega)]
      have e : ((a + 1) % 7 != (a % 7 + 1) % 7) = false := by
        rw [bne_eq_false_iff_eq]; omega
      rw [e]
      simp only [payofflaw02_CalWeeks.j2]
      rw [if_neg (by simp), business_nil 6 a]
      simp only [Option.bind_some]
      rw [if_pos (by rw [beq_iff_eq, decide_eq_decide]; omega), business_two 4 a]; rfl
    · rw [if_neg hl, business_nil 7 a]
      simp only [Option.bind_some]
      rw [if_pos (by rw [beq_iff_eq, decide_eq_decide]; omega), business_two 5 a]; rfl
  · rw [weekday_out a h]; simp only [Option.bind_some]
    have hb : cal_Business.f (8 + 1) a [] = some false := by
      rw [business_nil]; simp; omega
    have key : payofflaw02_CalWeeks.j0 10 a 0 2 true = some true := by
      simp only [payofflaw02_CalWeeks.j0]
      rw [if_pos trivial]
      simp only [Option.bind_some, payofflaw02_num.f]
      rw [if_pos trivial, hb]; rfl
    by_cases hn : a < 0
    · rw [if_pos hn]; exact key
    · rw [if_neg hn, decide_eq_true (by omega)]; exact key

end Go.Proofs.Ytdebllinaffceaa.Pure
