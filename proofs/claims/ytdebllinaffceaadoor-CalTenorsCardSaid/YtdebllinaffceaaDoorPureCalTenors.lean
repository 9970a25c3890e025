/- For any date, tenor and number: where cal.Add tells a date, days and weeks move its number by as many, months and years move the month and keep the day as far as the month has it, as one tenor of months does; no move leaves the date; a date that does not exist is refused. The arguments read as before. The package-level table cal.months is tied to the program's text. No other condition. -/
import Derived.Test.YtdebllinaffceaaDoorPlainF
import Derived.Test.YtdebllinaffceaaDoorMPayofflaw02CalTenors
namespace Go.Proofs.YtdebllinaffceaaDoor.Pure
open Go.RowKit Go.Proofs.YtdebllinaffceaaDoor.M Go.Proofs.YtdebllinaffceaaDoor.Plain Go.Proofs.YtdebllinaffceaaDoorW.PrintWords Go.Proofs.YtdebllinaffceaaDoorW.PrintLast

theorem ad (k : Nat) (hk : 320 ≤ k) (y m d t u n : Int) : cal_Add.f k y m d t u n = some (addV y m d t u n) := by
  obtain ⟨j, rfl⟩ : ∃ j, k = j + 320 := ⟨k - 320, by omega⟩
  exact add_eq j y m d t u n
theorem dy (k : Nat) (hk : 320 ≤ k) (y m d : Int) : cal_Day.f k y m d = some (dayV y m d) := by
  obtain ⟨j, rfl⟩ : ∃ j, k = j + 13 := ⟨k - 13, by omega⟩
  exact day_eq j y m d
theorem dt (k : Nat) (hk : 320 ≤ k) (x : Int) : cal_Date.f k x = some (dateV x) := by
  obtain ⟨j, rfl⟩ : ∃ j, k = j + 320 := ⟨k - 320, by omega⟩
  exact date_eq j x
theorem nm (x : Int) : payofflaw02_num.f x = some x := rfl
theorem dayV_ok (y m d : Int) (h : ok y m d = true) : dayV y m d = (num y m d, 0) := by unfold dayV; rw [h]; rfl
theorem dayV_no (y m d : Int) (h : ok y m d = false) : dayV y m d = (0, 21) := by unfold dayV; rw [h]; rfl

theorem date_err (x : Int) : (dateV x).2.2.2 = 0 ∨ dateV x = (0, 0, 0, 2) := by
  by_cases h : 0 ≤ x ∧ x ≤ 109572
  · obtain ⟨y, m, d, e, _, _⟩ := dateV_in x h.1 h.2
    left; rw [e]
  · right; exact dateV_out x h
theorem month_err (a d : Int) : (monthV a d).2.2.2 = 0 ∨ monthV a d = (0, 0, 0, 2) := by
  unfold monthV; split
  · right; rfl
  · left; rfl

/-- Beside an error the date is none. -/
theorem add_err (y m d t u n : Int) (h : (addV y m d t u n).2.2.2 ≠ 0) : (addV y m d t u n).1 = 0 ∧ (addV y m d t u n).2.1 = 0 ∧ (addV y m d t u n).2.2.1 = 0 := by
  have key : (addV y m d t u n).2.2.2 = 0 ∨ ∃ e, addV y m d t u n = (0, 0, 0, e) := by
    cases ht : tenor t u with
    | false => right; exact ⟨_, addV_tenor _ _ _ _ _ _ ht⟩
    | true =>
      cases ho : ok y m d with
      | false => right; exact ⟨_, addV_date _ _ _ _ _ _ ht ho⟩
      | true =>
        by_cases hf : 109572 < n ∨ n < -109572
        · right; exact ⟨_, addV_far _ _ _ _ _ _ ht ho hf⟩
        · rw [addV_near _ _ _ _ _ _ ht ho hf]
          by_cases u1 : u = 1
          · rw [if_pos u1]; exact (date_err _).imp id (fun e => ⟨_, e⟩)
          · rw [if_neg u1]
            by_cases u2 : u = 2
            · rw [if_pos u2]; exact (date_err _).imp id (fun e => ⟨_, e⟩)
            · rw [if_neg u2]
              by_cases u4 : u = 4
              · rw [if_pos u4]; exact (month_err _ _).imp id (fun e => ⟨_, e⟩)
              · rw [if_neg u4]; exact (month_err _ _).imp id (fun e => ⟨_, e⟩)
  rcases key with e | ⟨e, he⟩
  · exact absurd e h
  · rw [he]; exact ⟨rfl, rfl, rfl⟩

theorem still (y m d : Int) (h : ok y m d = true) : addV y m d 1 1 0 = (y, m, d, 0) := by
  rw [addV_near _ _ _ _ _ _ (by decide) h (by omega), if_pos rfl, Int.mul_zero, Int.add_zero, dateV_num _ _ _ h]

/-- Behind so many months: the month, the day, and the next day. -/
theorem months_tail (k : Nat) (hk : 330 ≤ k) (y m d a M : Int) (h : ok y m d = true) (ha : a = 12 * y + m - 1 + M) (h1 : ¬ a < 22800) (h2 : ¬ 26400 ≤ a) :
    payofflaw02_CalTenors.j1 k (num (monthV a d).1 (monthV a d).2.1 (monthV a d).2.2.1) M y m d (monthV a d).1 (monthV a d).2.1 (monthV a d).2.2.1 = some true := by
  have o := (ok_iff _ _ _).1 h
  have l0 := len_pos y m
  have hm : monthV a d = (a / 12, a % 12 + 1, if len (a / 12) (a % 12 + 1) < d then len (a / 12) (a % 12 + 1) else d, 0) := by
    unfold monthV; rw [if_neg (by omega)]
  rw [hm]; dsimp only
  have l1 := len_pos (a / 12) (a % 12 + 1)
  obtain ⟨k, rfl⟩ : ∃ j, k = j + 3 := ⟨k - 3, by omega⟩
  simp only [payofflaw02_CalTenors.j1]
  have e12 : wrap64 (wrap64 (12 * (a / 12)) + (a % 12 + 1)) = wrap64 (wrap64 (wrap64 (12 * y) + m) + M) := by
    rw [w64 (12 * (a / 12)) (by omega) (by omega), w64 (12 * y) (by omega) (by omega), w64 (12 * y + m) (by omega) (by omega)]
    congr 1; omega
  rw [if_pos e12, decide_eq_false (show ¬ (if len (a / 12) (a % 12 + 1) < d then len (a / 12) (a % 12 + 1) else d) > d by split <;> omega)]
  simp only [payofflaw02_CalTenors.j2, Bool.false_eq_true, if_false]
  have e3 : addV y m d 1 3 M = monthV a d := by
    rw [addV_near _ _ _ _ _ _ (by decide) h (by omega), if_neg (by omega), if_neg (by omega), if_neg (by omega)]
    congr 1; omega
  rw [ad (k + 1) (by omega), e3, hm]
  simp only [Option.bind_some, nm, if_true, beq_self_eq_true, Bool.not_true, Bool.or_self]
  simp only [payofflaw02_CalTenors.j3, Bool.false_eq_true, if_false]
  by_cases g : len (a / 12) (a % 12 + 1) < d
  · rw [if_pos g, if_pos g]
    have hmo : a % 12 + 1 ≤ 11 := by
      by_cases hc : a % 12 + 1 = 12
      · rw [hc] at g
        have : len (a / 12) 12 = 31 := rfl
        omega
      · omega
    have cs := cum_succ (a / 12) (a % 12 + 1) (by omega) (by omega)
    have okn : ok (a / 12) (a % 12 + 1 + 1) 1 = true := by
      rw [ok_iff]; have := len_pos (a / 12) (a % 12 + 1 + 1); omega
    have en : num (a / 12) (a % 12 + 1) (len (a / 12) (a % 12 + 1)) + 1 = num (a / 12) (a % 12 + 1 + 1) 1 := by
      unfold num; omega
    have nb := num_in _ _ _ okn
    rw [w64 _ (by omega) (by omega), en, dt k (by omega), dateV_num _ _ _ okn]
    simp [nm]
  · rw [if_neg g, if_neg (by omega)]

theorem CalTenors (a0_0 a0_1 a0_2 a1_0 a1_1 a2 : Int) (_ : (Lit.int .i64 a0_0).wf = true) (_ : (Lit.int .i64 a0_1).wf = true) (_ : (Lit.int .i64 a0_2).wf = true) (_ : (Lit.int .i64 a1_0).wf = true) (_ : (Lit.int .i64 a1_1).wf = true) (_ : (Lit.int .i64 a2).wf = true) :
    ∃ k, payofflaw02_CalTenors.f k a0_0 a0_1 a0_2 a1_0 a1_1 a2 = some true := by
  refine ⟨340, ?_⟩
  unfold payofflaw02_CalTenors.f
  rw [dy _ (by omega), ad _ (by omega)]
  cases ho : ok a0_0 a0_1 a0_2 with
  | false =>
    rw [dayV_no _ _ _ ho, addV_date _ _ _ _ _ _ (by decide) ho]
    simp [nm]
  | true =>
    have o := (ok_iff _ _ _).1 ho
    have nn := num_in _ _ _ ho
    rw [dayV_ok _ _ _ ho, still _ _ _ ho]
    simp only [Option.bind_some, nm, if_true, beq_self_eq_true, Bool.not_true, Bool.or_self]
    simp only [payofflaw02_CalTenors.j0, Bool.false_eq_true, if_false]
    rw [ad _ (by omega)]; simp only [Option.bind_some, nm]
    by_cases he : (addV a0_0 a0_1 a0_2 a1_0 a1_1 a2).2.2.2 = 0
    · rw [if_pos he]
      cases ht : tenor a1_0 a1_1 with
      | false => rw [addV_tenor _ _ _ _ _ _ ht] at he; cases he
      | true =>
        have hT := (tenor_iff _ _).1 ht
        by_cases hf : 109572 < a2 ∨ a2 < -109572
        · rw [addV_far _ _ _ _ _ _ ht ho hf] at he; cases he
        · have b := mul_bd a1_0 a2 109572 (by omega) (by omega) (by omega) (by omega) (by omega)
          rw [addV_near _ _ _ _ _ _ ht ho hf] at he ⊢
          have day : ∀ c : Int, (dateV (num a0_0 a0_1 a0_2 + c)).2.2.2 = 0 →
              ∃ y m d, dateV (num a0_0 a0_1 a0_2 + c) = (y, m, d, 0) ∧ ok y m d = true ∧ num y m d - num a0_0 a0_1 a0_2 = c := by
            intro c hc
            by_cases hr : 0 ≤ num a0_0 a0_1 a0_2 + c ∧ num a0_0 a0_1 a0_2 + c ≤ 109572
            · obtain ⟨y, m, d, e, o', q⟩ := dateV_in _ hr.1 hr.2
              exact ⟨y, m, d, e, o', by omega⟩
            · rw [dateV_out _ hr] at hc; cases hc
          by_cases u1 : a1_1 = 1
          · rw [if_pos u1] at he ⊢
            obtain ⟨y, m, d, e, o', q⟩ := day _ he
            have n2 := num_in _ _ _ o'
            rw [e, dy _ (by omega), dayV_ok _ _ _ o']
            simp only [Option.bind_some, if_true]
            rw [if_pos u1, q]; simp
          · rw [if_neg u1] at he ⊢
            by_cases u2 : a1_1 = 2
            · rw [if_pos u2] at he ⊢
              obtain ⟨y, m, d, e, o', q⟩ := day _ he
              rw [e, dy _ (by omega), dayV_ok _ _ _ o']
              simp only [Option.bind_some, if_true]
              rw [if_neg u1, if_pos u2, q, w64 (7 * a1_0) (by omega) (by omega)]; simp
            · rw [if_neg u2] at he ⊢
              have mon : ∀ a M : Int, a = 12 * a0_0 + a0_1 - 1 + M → (monthV a a0_2).2.2.2 = 0 → dayV (monthV a a0_2).1 (monthV a a0_2).2.1 (monthV a a0_2).2.2.1 = (num (monthV a a0_2).1 (monthV a a0_2).2.1 (monthV a a0_2).2.2.1, 0) ∧ ¬ a < 22800 ∧ ¬ 26400 ≤ a := by
                intro a M _ hz
                have h12 : ¬ (a < 22800 ∨ 26400 ≤ a) := by
                  intro hc; unfold monthV at hz; rw [if_pos hc] at hz; cases hz
                refine ⟨dayV_ok _ _ _ ?_, by omega, by omega⟩
                rw [ok_iff]; unfold monthV; rw [if_neg h12]; dsimp only
                have l1 := len_pos (a / 12) (a % 12 + 1)
                split <;> omega
              by_cases u4 : a1_1 = 4
              · rw [if_pos u4] at he ⊢
                obtain ⟨d1, d2, d3⟩ := mon _ _ rfl he
                rw [dy _ (by omega), d1]
                simp only [Option.bind_some, if_true]
                rw [if_neg u1, if_neg u2, if_pos u4, w64 (a1_0 * a2) (by omega) (by omega), w64 (12 * (a1_0 * a2)) (by omega) (by omega)]
                exact months_tail _ (by omega) _ _ _ _ _ ho rfl d2 d3
              · rw [if_neg u4] at he ⊢
                obtain ⟨d1, d2, d3⟩ := mon _ _ rfl he
                rw [dy _ (by omega), d1]
                simp only [Option.bind_some, if_true]
                rw [if_neg u1, if_neg u2, if_neg u4, w64 (a1_0 * a2) (by omega) (by omega)]
                exact months_tail _ (by omega) _ _ _ _ _ ho rfl d2 d3
    · rw [if_neg he]
      obtain ⟨e1, e2, e3⟩ := add_err _ _ _ _ _ _ he
      rw [e1, e2, e3]; simp

end Go.Proofs.YtdebllinaffceaaDoor.Pure
