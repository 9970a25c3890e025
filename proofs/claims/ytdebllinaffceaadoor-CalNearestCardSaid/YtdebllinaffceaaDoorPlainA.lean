/- The calendar's plain mathematics, and what the printed functions for leap years, months' lengths and existing dates compute. -/
import Derived.Test.YtdebllinaffceaaDoorMCalExists
import Derived.Test.YtdebllinaffceaaDoorMPayoffref02Is
namespace Go.Proofs.YtdebllinaffceaaDoor.Plain
open Go.RowKit Go.Proofs.YtdebllinaffceaaDoor.M Go.Proofs.YtdebllinaffceaaDoorW.PrintWords Go.Proofs.YtdebllinaffceaaDoorW.PrintLast

/-- A leap year. -/
def leapY (y : Int) : Bool := decide (y % 4 = 0 ∧ (y % 100 = 0 → y % 400 = 0))
/-- A month's length. -/
def len (y m : Int) : Int := if m = 2 then (if leapY y then 29 else 28) else if m = 4 ∨ m = 6 ∨ m = 9 ∨ m = 11 then 30 else 31
/-- The date exists. -/
def ok (y m d : Int) : Bool := decide (1900 ≤ y ∧ y ≤ 2199 ∧ 1 ≤ m ∧ m ≤ 12 ∧ 1 ≤ d ∧ d ≤ len y m)

theorem len_pos (y m : Int) : 28 ≤ len y m ∧ len y m ≤ 31 := by
  unfold len; split
  · split <;> omega
  · split <;> omega

theorem leap_eq (y : Int) (h : 0 ≤ y) : cal_leap.f y = some (leapY y) := by
  unfold cal_leap.f leapY
  rw [Int.tmod_eq_emod_of_nonneg h, Int.tmod_eq_emod_of_nonneg h, Int.tmod_eq_emod_of_nonneg h]
  by_cases h4 : y % 4 = 0
  · rw [if_pos h4]
    by_cases h1 : y % 100 = 0
    · rw [if_pos h1]; congr 1
      rw [Bool.eq_iff_iff]; simp [h4, h1]
    · rw [if_neg h1]; congr 1; symm; simp [h4, h1]
  · rw [if_neg h4]; congr 1; symm; simp [h4]

theorem rleap_eq (y : Int) (h : 0 ≤ y) : payoffref02_leap.f y = some (leapY y) := by
  unfold payoffref02_leap.f leapY
  rw [Int.tmod_eq_emod_of_nonneg h, Int.tmod_eq_emod_of_nonneg h, Int.tmod_eq_emod_of_nonneg h]
  by_cases h4 : y % 400 = 0
  · rw [if_pos h4]; congr 1; symm; rw [decide_eq_true_iff]; omega
  · rw [if_neg h4]
    by_cases h1 : y % 4 = 0
    · rw [if_pos h1]; congr 1
      rw [Bool.eq_iff_iff, bne_iff_ne, decide_eq_true_iff]; omega
    · rw [if_neg h1]; congr 1; symm; rw [decide_eq_false_iff_not]; omega

theorem tab_len (y m : Int) (h1 : 1 ≤ m) (h2 : m ≤ 12) (hm : m ≠ 2) : rd monthTab (m - 1) = len y m := by
  have hh : m = 1 ∨ m = 3 ∨ m = 4 ∨ m = 5 ∨ m = 6 ∨ m = 7 ∨ m = 8 ∨ m = 9 ∨ m = 10 ∨ m = 11 ∨ m = 12 := by omega
  rcases hh with rfl | rfl | rfl | rfl | rfl | rfl | rfl | rfl | rfl | rfl | rfl <;> rfl

theorem length_eq (y m : Int) (h : 0 ≤ y) (h1 : 1 ≤ m) (h2 : m ≤ 12) : cal_length.f y m = some (len y m) := by
  unfold cal_length.f
  by_cases c : m = 2
  · rw [if_pos c, leap_eq y h]; simp only [Option.bind_some]; unfold len; rw [if_pos c]
    cases leapY y <;> rfl
  · rw [if_neg c, if_pos h1, if_pos h2, tab_len y m h1 h2 c]

theorem rlength_eq (k : Nat) (y m : Int) (h : 0 ≤ y) : payoffref02_Length.f (k + 2) y m = some (if 1 ≤ m ∧ m ≤ 12 then len y m else 0) := by
  unfold payoffref02_Length.f
  have j1 : ∀ b, (b = true → m = 4 ∨ m = 6 ∨ m = 9 ∨ m = 11) → (b = false → ¬ (m = 4 ∨ m = 6 ∨ m = 9 ∨ m = 11)) → ¬ (m = 1 ∨ m = 3 ∨ m = 5 ∨ m = 7 ∨ m = 8 ∨ m = 10 ∨ m = 12) →
      payoffref02_Length.j1 (k + 1) y m b = some (if 1 ≤ m ∧ m ≤ 12 then len y m else 0) := by
    intro b ht hf hn
    simp only [payoffref02_Length.j1]
    cases b with
    | true =>
      have := ht rfl
      rw [if_pos rfl, if_pos (by omega)]; unfold len; rw [if_neg (by omega), if_pos this]
    | false =>
      have := hf rfl
      rw [if_neg (by decide)]
      by_cases c : m = 2
      · rw [if_pos c, rleap_eq y h, if_pos (by omega)]; simp only [Option.bind_some]; unfold len; rw [if_pos c]
        cases leapY y <;> rfl
      · rw [if_neg c, if_neg (by omega)]
  have j0 : ∀ b, (b = true → m = 1 ∨ m = 3 ∨ m = 5 ∨ m = 7 ∨ m = 8 ∨ m = 10 ∨ m = 12) → (b = false → ¬ (m = 1 ∨ m = 3 ∨ m = 5 ∨ m = 7 ∨ m = 8 ∨ m = 10 ∨ m = 12)) →
      payoffref02_Length.j0 (k + 2) y m b = some (if 1 ≤ m ∧ m ≤ 12 then len y m else 0) := by
    intro b ht hf
    simp only [payoffref02_Length.j0]
    cases b with
    | true =>
      have := ht rfl
      rw [if_pos rfl, if_pos (by omega)]; unfold len; rw [if_neg (by omega), if_neg (by omega)]
    | false =>
      have hn := hf rfl
      rw [if_neg (by decide)]
      by_cases c4 : m = 4
      · rw [if_pos c4]; exact j1 _ (fun _ => by omega) (fun hb => by simp [c4] at hb) hn
      · rw [if_neg c4]
        by_cases c6 : m = 6
        · rw [if_pos c6]; exact j1 _ (fun _ => by omega) (fun hb => by simp [c6] at hb) hn
        · rw [if_neg c6]
          by_cases c9 : m = 9
          · rw [if_pos c9]; exact j1 _ (fun _ => by omega) (fun hb => by simp [c9] at hb) hn
          · rw [if_neg c9]; exact j1 _ (fun hb => by rw [beq_iff_eq] at hb; omega) (fun hb => by rw [beq_eq_false_iff_ne] at hb; omega) hn
  by_cases c1 : m = 1
  · rw [if_pos c1]; exact j0 _ (fun _ => by omega) (fun hb => by simp [c1] at hb)
  · rw [if_neg c1]
    by_cases c3 : m = 3
    · rw [if_pos c3]; exact j0 _ (fun _ => by omega) (fun hb => by simp [c3] at hb)
    · rw [if_neg c3]
      by_cases c5 : m = 5
      · rw [if_pos c5]; exact j0 _ (fun _ => by omega) (fun hb => by simp [c5] at hb)
      · rw [if_neg c5]
        by_cases c7 : m = 7
        · rw [if_pos c7]; exact j0 _ (fun _ => by omega) (fun hb => by simp [c7] at hb)
        · rw [if_neg c7]
          by_cases c8 : m = 8
          · rw [if_pos c8]; exact j0 _ (fun _ => by omega) (fun hb => by simp [c8] at hb)
          · rw [if_neg c8]
            by_cases c10 : m = 10
            · rw [if_pos c10]; exact j0 _ (fun _ => by omega) (fun hb => by simp [c10] at hb)
            · rw [if_neg c10]; exact j0 _ (fun hb => by rw [beq_iff_eq] at hb; omega) (fun hb => by rw [beq_eq_false_iff_ne] at hb; omega)

theorem exists_eq (y m d : Int) : cal_exists.f y m d = some (ok y m d) := by
  unfold cal_exists.f ok
  by_cases h1 : y ≥ 1900
  · rw [if_pos h1]
    by_cases h2 : y ≤ 2199
    · rw [if_pos h2]
      by_cases h3 : m ≥ 1
      · rw [if_pos h3]
        by_cases h4 : m ≤ 12
        · rw [if_pos h4]
          by_cases h5 : d ≥ 1
          · rw [if_pos h5, length_eq y m (by omega) h3 h4]; simp only [Option.bind_some]; congr 1; rw [decide_eq_decide]; omega
          · rw [if_neg h5]; congr 1; symm; rw [decide_eq_false_iff_not]; omega
        · rw [if_neg h4]; congr 1; symm; rw [decide_eq_false_iff_not]; omega
      · rw [if_neg h3]; congr 1; symm; rw [decide_eq_false_iff_not]; omega
    · rw [if_neg h2]; congr 1; symm; rw [decide_eq_false_iff_not]; omega
  · rw [if_neg h1]; congr 1; symm; rw [decide_eq_false_iff_not]; omega

theorem is_eq (k : Nat) (y m d : Int) : payoffref02_Is.f (k + 2) y m d = some (ok y m d) := by
  unfold payoffref02_Is.f ok
  by_cases h1 : y < 1900
  · rw [if_pos h1]; congr 1; symm; rw [decide_eq_false_iff_not]; omega
  · rw [if_neg h1]
    by_cases h2 : y > 2199
    · rw [if_pos h2]; congr 1; symm; rw [decide_eq_false_iff_not]; omega
    · rw [if_neg h2, rlength_eq k y m (by omega)]; simp only [Option.bind_some]
      by_cases hm : 1 ≤ m ∧ m ≤ 12
      · rw [if_pos hm]
        by_cases h5 : d ≥ 1
        · rw [if_pos h5]; congr 1; rw [decide_eq_decide]; omega
        · rw [if_neg h5]; congr 1; symm; rw [decide_eq_false_iff_not]; omega
      · rw [if_neg hm]
        by_cases h5 : d ≥ 1
        · rw [if_pos h5]; congr 1; rw [decide_eq_decide]; omega
        · rw [if_neg h5]; congr 1; symm; rw [decide_eq_false_iff_not]; omega

end Go.Proofs.YtdebllinaffceaaDoor.Plain
