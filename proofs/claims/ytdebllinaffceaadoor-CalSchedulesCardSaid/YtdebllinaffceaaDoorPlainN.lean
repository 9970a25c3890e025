/- What the given function Add computes: a plain function. -/
import Derived.Test.YtdebllinaffceaaDoorVWords
import Derived.Test.YtdebllinaffceaaDoorPlainK
import Derived.Test.YtdebllinaffceaaDoorMCalAdd
namespace Go.Proofs.YtdebllinaffceaaDoor.Plain
open Go.RowKit Go.Proofs.YtdebllinaffceaaDoor.M Go.Proofs.YtdebllinaffceaaDoorW.PrintWords Go.Proofs.YtdebllinaffceaaDoorW.PrintLast Go.Proofs.YtdebllinaffceaaDoorW.PrintMore

/-- A tenor is valid. -/
def tenor (n u : Int) : Bool := decide (1 ≤ n ∧ n ≤ 999 ∧ 1 ≤ u ∧ u ≤ 4)

theorem tenor_eq (n u : Int) : cal_validTenor.f n u = some (tenor n u) := by
  unfold cal_validTenor.f tenor
  by_cases h1 : n ≥ 1
  · rw [if_pos h1]
    by_cases h2 : n ≤ 999
    · rw [if_pos h2]
      by_cases h3 : u ≥ 1
      · rw [if_pos h3]; congr 1; rw [decide_eq_decide]; omega
      · rw [if_neg h3]; congr 1; symm; rw [decide_eq_false_iff_not]; omega
    · rw [if_neg h2]; congr 1; symm; rw [decide_eq_false_iff_not]; omega
  · rw [if_neg h1]; congr 1; symm; rw [decide_eq_false_iff_not]; omega

/-- The date so many months from month 0 of year 0. -/
def monthV (a d : Int) : Int × Int × Int × Int := if a < 22800 ∨ 26400 ≤ a then (0, 0, 0, 2) else (a / 12, a % 12 + 1, if len (a / 12) (a % 12 + 1) < d then len (a / 12) (a % 12 + 1) else d, 0)

/-- The date n tenors later, and the error. -/
def addV (y m d t u n : Int) : Int × Int × Int × Int :=
  if tenor t u = false then (0, 0, 0, 1)
  else if ok y m d = false then (0, 0, 0, 21)
  else if 109572 < n ∨ n < -109572 then (0, 0, 0, 2)
  else if u = 1 then dateV (num y m d + t * n)
  else if u = 2 then dateV (num y m d + 7 * t * n)
  else if u = 4 then monthV (12 * y + m - 1 + 12 * (t * n)) d
  else monthV (12 * y + m - 1 + t * n) d

theorem mul_bd (t n B : Int) (h1 : 1 ≤ t) (h2 : t ≤ 999) (hB : 0 ≤ B) (h3 : n ≤ B) (h4 : -B ≤ n) : t * n ≤ 999 * B ∧ -(999 * B) ≤ t * n := by
  have a : t * n ≤ t * B := Int.mul_le_mul_of_nonneg_left h3 (by omega)
  have b : t * (-B) ≤ t * n := Int.mul_le_mul_of_nonneg_left h4 (by omega)
  have c : t * B ≤ 999 * B := Int.mul_le_mul_of_nonneg_right h2 hB
  rw [Int.mul_neg] at b
  omega

theorem tenor_iff (n u : Int) : tenor n u = true ↔ 1 ≤ n ∧ n ≤ 999 ∧ 1 ≤ u ∧ u ≤ 4 := by unfold tenor; rw [decide_eq_true_iff]

theorem addV_tenor (y m d t u n : Int) (h : tenor t u = false) : addV y m d t u n = (0, 0, 0, 1) := by unfold addV; rw [if_pos h]
theorem addV_date (y m d t u n : Int) (h : tenor t u = true) (h2 : ok y m d = false) : addV y m d t u n = (0, 0, 0, 21) := by
  unfold addV; rw [if_neg (by simp [h]), if_pos h2]
theorem addV_far (y m d t u n : Int) (h : tenor t u = true) (h2 : ok y m d = true) (h3 : 109572 < n ∨ n < -109572) : addV y m d t u n = (0, 0, 0, 2) := by
  unfold addV; rw [if_neg (by simp [h]), if_neg (by simp [h2]), if_pos h3]
theorem addV_near (y m d t u n : Int) (h : tenor t u = true) (h2 : ok y m d = true) (h3 : ¬ (109572 < n ∨ n < -109572)) :
    addV y m d t u n = if u = 1 then dateV (num y m d + t * n) else if u = 2 then dateV (num y m d + 7 * t * n) else if u = 4 then monthV (12 * y + m - 1 + 12 * (t * n)) d else monthV (12 * y + m - 1 + t * n) d := by
  unfold addV; rw [if_neg (by simp [h]), if_neg (by simp [h2]), if_neg h3]

theorem month_of (d a x : Int) (e : x = a) (h1 : ¬ a < 22800) (h2 : ¬ a ≥ 26400) :
    ((cal_length.f (wrap64 (Int.tdiv x 12)) (wrap64 ((Int.tmod x 12) + 1))).bind fun t => (some (wrap64 (Int.tdiv x 12), wrap64 ((Int.tmod x 12) + 1), mn d t, (0 : Int)))) = some (monthV a d) := by
  subst e
  rw [Int.tdiv_eq_ediv_of_nonneg (by omega), Int.tmod_eq_emod_of_nonneg (by omega), w64 (x / 12) (by omega) (by omega), w64 (x % 12 + 1) (by omega) (by omega), length_eq _ _ (by omega) (by omega) (by omega)]
  unfold monthV mn
  rw [if_neg (by omega)]; rfl

theorem add_eq (k : Nat) (y m d t u n : Int) : cal_Add.f (k + 320) y m d t u n = some (addV y m d t u n) := by
  unfold cal_Add.f
  rw [day_eq (k + 307), tenor_eq]; simp only [Option.bind_some]
  cases ht : tenor t u with
  | false => rw [addV_tenor _ _ _ _ _ _ ht]; rfl
  | true =>
    have hT := (tenor_iff _ _).1 ht
    rw [if_pos rfl]; unfold dayV
    cases h : ok y m d with
    | false => rw [addV_date _ _ _ _ _ _ ht h]; rfl
    | true =>
      have o := (ok_iff _ _ _).1 h
      have nn := num_in _ _ _ h
      rw [if_pos rfl]; dsimp only; rw [if_pos rfl]
      by_cases f1 : n > 109572
      · rw [if_pos f1, addV_far _ _ _ _ _ _ ht h (.inl f1)]
      · rw [if_neg f1]
        by_cases f2 : n < (-109572)
        · rw [if_pos f2, addV_far _ _ _ _ _ _ ht h (.inr f2)]
        · rw [if_neg f2, addV_near _ _ _ _ _ _ ht h (by omega)]
          have b := mul_bd t n 109572 (by omega) (by omega) (by omega) (by omega) (by omega)
          by_cases u1 : u = 1
          · rw [if_pos u1, if_pos u1, w64 (t * n) (by omega) (by omega), w64 _ (by omega) (by omega), date_eq k]; rfl
          · rw [if_neg u1, if_neg u1]
            by_cases u2 : u = 2
            · have e7 : 7 * t * n = 7 * (t * n) := by rw [Int.mul_assoc]
              rw [if_pos u2, if_pos u2, w64 (7 * t) (by omega) (by omega), w64 (7 * t * n) (by omega) (by omega), w64 _ (by omega) (by omega), date_eq k]; rfl
            · rw [if_neg u2, if_neg u2]
              have e0 : wrap64 (wrap64 (wrap64 (12 * y) + m) - 1) = 12 * y + m - 1 := by
                rw [w64 (12 * y) (by omega) (by omega), w64 (12 * y + m) (by omega) (by omega), w64 _ (by omega) (by omega)]
              by_cases u4 : u = 4
              · have e1 : wrap64 (wrap64 (wrap64 (wrap64 (12 * y) + m) - 1) + wrap64 (wrap64 (t * n) * 12)) = 12 * y + m - 1 + 12 * (t * n) := by
                  rw [e0, w64 (t * n) (by omega) (by omega), w64 (t * n * 12) (by omega) (by omega), w64 _ (by omega) (by omega)]; omega
                rw [if_pos u4, if_pos u4, e1]
                by_cases g1 : 12 * y + m - 1 + 12 * (t * n) < 22800
                · rw [if_pos g1]; unfold monthV; rw [if_pos (.inl g1)]
                · rw [if_neg g1]
                  by_cases g2 : 12 * y + m - 1 + 12 * (t * n) ≥ 26400
                  · rw [if_pos g2]; unfold monthV; rw [if_pos (.inr g2)]
                  · rw [if_neg g2]; exact month_of _ _ _ rfl g1 g2
              · have e1 : wrap64 (wrap64 (wrap64 (wrap64 (12 * y) + m) - 1) + wrap64 (t * n)) = 12 * y + m - 1 + t * n := by
                  rw [e0, w64 (t * n) (by omega) (by omega), w64 _ (by omega) (by omega)]
                rw [if_neg u4, if_neg u4, e1]
                by_cases g1 : 12 * y + m - 1 + t * n < 22800
                · rw [if_pos g1]; unfold monthV; rw [if_pos (.inl g1)]
                · rw [if_neg g1]
                  by_cases g2 : 12 * y + m - 1 + t * n ≥ 26400
                  · rw [if_pos g2]; unfold monthV; rw [if_pos (.inr g2)]
                  · rw [if_neg g2]; exact month_of _ _ _ rfl g1 g2

end Go.Proofs.YtdebllinaffceaaDoor.Plain
