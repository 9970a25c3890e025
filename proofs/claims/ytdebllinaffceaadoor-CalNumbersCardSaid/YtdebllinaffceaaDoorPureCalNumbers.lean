/- For any date and any number: cal.Day, cal.Date and cal.Weekday answer what the document's Day, Date and Weekday answer, values and errors. The arguments read as before. The package-level table cal.months is tied to the program's text. No other condition. -/
import Derived.Test.YtdebllinaffceaaDoorPlainE
import Derived.Test.YtdebllinaffceaaDoorMPayofflaw02CalNumbers
namespace Go.Proofs.YtdebllinaffceaaDoor.Pure
open Go.RowKit Go.Proofs.YtdebllinaffceaaDoor.M Go.Proofs.YtdebllinaffceaaDoor.Plain Go.Proofs.YtdebllinaffceaaDoorW.PrintWords Go.Proofs.YtdebllinaffceaaDoorW.PrintLast

theorem weekdays (a : Int) : cal_Weekday.f a = payoffref02_Weekday.f a := by
  unfold cal_Weekday.f payoffref02_Weekday.f
  rw [inside_eq]
  by_cases h : 0 ≤ a ∧ a ≤ 109572
  · rw [decide_eq_true h, if_neg (by omega), if_neg (by omega)]; rfl
  · rw [decide_eq_false h]
    by_cases g : a < 0
    · rw [if_pos g]; rfl
    · rw [if_neg g, if_pos (by omega)]; rfl

theorem weekday_some (a : Int) : ∃ x y, payoffref02_Weekday.f a = some (x, y) := by
  unfold payoffref02_Weekday.f
  by_cases g : a < 0
  · rw [if_pos g]; exact ⟨_, _, rfl⟩
  · rw [if_neg g]
    by_cases g2 : a ≥ 109573
    · rw [if_pos g2]; exact ⟨_, _, rfl⟩
    · rw [if_neg g2]; exact ⟨_, _, rfl⟩

theorem days (k : Nat) (y m d : Int) : cal_Day.f (k + 320) y m d = payoffref02_Day.f (k + 320) y m d ∧ ∃ a b, payoffref02_Day.f (k + 320) y m d = some (a, b) := by
  cases h : ok y m d with
  | true => rw [day_in (k + 307) _ _ _ h, rday_in k _ _ _ h]; exact ⟨rfl, _, _, rfl⟩
  | false => rw [day_out _ _ _ _ h, rday_out (k + 318) _ _ _ h]; exact ⟨rfl, _, _, rfl⟩

theorem dates (k : Nat) (a : Int) : cal_Date.f (k + 320) a = payoffref02_Date.f (k + 320) a ∧ ∃ y m d e, payoffref02_Date.f (k + 320) a = some (y, m, d, e) := by
  by_cases h : 0 ≤ a ∧ a ≤ 109572
  · obtain ⟨y, m, d, e, o, q⟩ := date_in k a h.1 h.2
    obtain ⟨y', m', d', e', o', q'⟩ := rdate_in k a h.1 h.2
    obtain ⟨rfl, rfl, rfl⟩ := num_inj _ _ _ _ _ _ o o' (by omega)
    rw [e, e']; exact ⟨rfl, _, _, _, _, rfl⟩
  · rw [date_out _ _ h, rdate_out (k + 319) _ h]; exact ⟨rfl, _, _, _, _, rfl⟩

theorem CalNumbers (a0_0 a0_1 a0_2 a1 : Int) (_ : (Lit.int .i64 a0_0).wf = true) (_ : (Lit.int .i64 a0_1).wf = true) (_ : (Lit.int .i64 a0_2).wf = true) (_ : (Lit.int .i64 a1).wf = true) :
    ∃ k, payofflaw02_CalNumbers.f k a0_0 a0_1 a0_2 a1 = some true := by
  refine ⟨0 + 320, ?_⟩
  unfold payofflaw02_CalNumbers.f
  obtain ⟨e1, a, b, e2⟩ := days 0 a0_0 a0_1 a0_2
  obtain ⟨e3, y, m, d, e, e4⟩ := dates 0 a1
  obtain ⟨p, q, e5⟩ := weekday_some a1
  rw [e1, e2, e3, e4, weekdays, e5]
  simp

end Go.Proofs.YtdebllinaffceaaDoor.Pure
