/- What the two functions Add compute: one plain function. -/
import Derived.Test.YtdebllinaffceaaDoorPlainE
import Derived.Test.YtdebllinaffceaaDoorMCalAdd
import Derived.Test.YtdebllinaffceaaDoorMPayoffref02Add
namespace Go.Proofs.YtdebllinaffceaaDoor.Plain
open Go.RowKit Go.Proofs.YtdebllinaffceaaDoor.M Go.Proofs.YtdebllinaffceaaDoorW.PrintWords Go.Proofs.YtdebllinaffceaaDoorW.PrintLast Go.Proofs.YtdebllinaffceaaDoorW.PrintMore

/-- The date with a number, and the error. -/
def dateV (day : Int) : Int × Int × Int × Int := (cal_Date.f 320 day).getD (0, 0, 0, 2)

theorem dateV_in (day : Int) (h0 : 0 ≤ day) (h9 : day ≤ 109572) : ∃ y m d, dateV day = (y, m, d, 0) ∧ ok y m d = true ∧ num y m d = day := by
  obtain ⟨y, m, d, e, o, q⟩ := date_in 0 day h0 h9
  exact ⟨y, m, d, by unfold dateV; rw [e]; rfl, o, q⟩

theorem dateV_out (day : Int) (h : ¬ (0 ≤ day ∧ day ≤ 109572)) : dateV day = (0, 0, 0, 2) := by
  unfold dateV; rw [date_out _ _ h]; rfl

theorem dateV_num (y m d : Int) (h : ok y m d = true) : dateV (num y m d) = (y, m, d, 0) := by
  unfold dateV; rw [date_num 0 _ _ _ h]; rfl

theorem date_eq (k : Nat) (day : Int) : cal_Date.f (k + 320) day = some (dateV day) := by
  by_cases h : 0 ≤ day ∧ day ≤ 109572
  · obtain ⟨y, m, d, e, o, q⟩ := dateV_in day h.1 h.2
    rw [e, ← q]; exact date_num k y m d o
  · rw [date_out _ _ h, dateV_out _ h]

theorem rdate_eq (k : Nat) (day : Int) : payoffref02_Date.f (k + 320) day = some (dateV day) := by
  by_cases h : 0 ≤ day ∧ day ≤ 109572
  · obtain ⟨y, m, d, e, o, q⟩ := rdate_in k day h.1 h.2
    rw [e, ← q, dateV_num y m d o]
  · rw [rdate_out (k + 319) _ h, dateV_out _ h]

/-- A date's number, and the error. -/
def dayV (y m d : Int) : Int × Int := if ok y m d then (num y m d, 0) else (0, 21)

theorem day_eq (k : Nat) (y m d : Int) : cal_Day.f (k + 13) y m d = some (dayV y m d) := by
  unfold dayV
  cases h : ok y m d with
  | true => rw [day_in k _ _ _ h]; rfl
  | false => rw [day_out _ _ _ _ h]; rfl

theorem rday_eq (k : Nat) (y m d : Int) : payoffref02_Day.f (k + 320) y m d = some (dayV y m d) := by
  unfold dayV
  cases h : ok y m d with
  | true => rw [rday_in k _ _ _ h]; rfl
  | false => rw [rday_out (k + 318) _ _ _ h]; rfl

/-- A tenor is valid. -/
def tenor (n u : Int) : Bool := decide (1 ≤ n ∧ n ≤ 999 ∧ 1 ≤ u ∧ u ≤ 4)

theorem tenor_eq (n u : Int) : cal_validTenor.f n u = some (tenor n u) := by
  unfold cal_validTenor.f tenor
  by_cases h1 : n ≥ 1
  · rw [if_pos h1]
    by_cases h2 : n ≤ 999
    · rw [if_pos h2]
      by_cases h3 : u ≥ 1
      · rw [if_pos h3]; congr 1; rw [decide_eq_decide]; omega
      · rw [if_neg h3]; congr 1; symm; rw [decide_eq_false_iff_not]; omega
    · rw [if_neg h2]; congr 1; symm; rw [decide_eq_false_iff_not]; omega
  · rw [if_neg h1]; congr 1; symm; rw [decide_eq_false_iff_not]; omega

theorem rtenor_eq (n u : Int) : payoffref02_ValidTenor.f n u = some (tenor n u) := by
  rw [← tenor_eq]; rfl

/-- The date so many months from month 0 of year 0. -/
def monthV (a d : Int) : Int × Int × Int × Int := if a < 22800 ∨ 26400 ≤ a then (0, 0, 0, 2) else (a / 12, a % 12 + 1, if len (a / 12) (a % 12 + 1) < d then len (a / 12) (a % 12 + 1) else d, 0)

/-- The date n tenors later, and the error. -/
def addV (y m d t u n : Int) : Int × Int × Int × Int :=
  if tenor t u = false then (0, 0, 0, 1)
  else if ok y m d = false then (0, 0, 0, 21)
  else if 109572 < n ∨ n < -109572 then (0, 0, 0, 2)
  else if u = 1 then dateV (num y m d + t * n)
  else if u = 2 then dateV (num y m d + 7 * t * n)
  else if u = 4 then monthV (12 * y + m - 1 + 12 * (t * n)) d
  else monthV (12 * y + m - 1 + t * n) d

theorem mul_bd (t n B : Int) (h1 : 1 ≤ t) (h2 : t ≤ 999) (hB : 0 ≤ B) (h3 : n ≤ B) (h4 : -B ≤ n) : t * n ≤ 999 * B ∧ -(999 * B) ≤ t * n := by
  have a : t * n ≤ t * B := Int.mul_le_mul_of_nonneg_left h3 (by omega)
  have b : t * (-B) ≤ t * n := Int.mul_le_mul_of_nonneg_left h4 (by omega)
  have c : t * B ≤ 999 * B := Int.mul_le_mul_of_nonneg_right h2 hB
  rw [Int.mul_neg] at b
  omega

theorem tenor_iff (n u : Int) : tenor n u = true ↔ 1 ≤ n ∧ n ≤ 999 ∧ 1 ≤ u ∧ u ≤ 4 := by unfold tenor; rw [decide_eq_true_iff]

theorem addV_tenor (y m d t u n : Int) (h : tenor t u = false) : addV y m d t u n = (0, 0, 0, 1) := by unfold addV; rw [if_pos h]
theorem addV_date (y m d t u n : Int) (h : tenor t u = true) (h2 : ok y m d = false) : addV y m d t u n = (0, 0, 0, 21) := by
  unfold addV; rw [if_neg (by simp [h]), if_pos h2]
theorem addV_far (y m d t u n : Int) (h : tenor t u = true) (h2 : ok y m d = true) (h3 : 109572 < n ∨ n < -109572) : addV y m d t u n = (0, 0, 0, 2) := by
  unfold addV; rw [if_neg (by simp [h]), if_neg (by simp [h2]), if_pos h3]
theorem addV_near (y m d t u n : Int) (h : tenor t u = true) (h2 : ok y m d = true) (h3 : ¬ (109572 < n ∨ n < -109572)) :
    addV y m d t u n = if u = 1 then dateV (num y m d + t * n) else if u = 2 then dateV (num y m d + 7 * t * n) else if u = 4 then monthV (12 * y + m - 1 + 12 * (t * n)) d else monthV (12 * y + m - 1 + t * n) d := by
  unfold addV; rw [if_neg (by simp [h]), if_neg (by simp [h2]), if_neg h3]

theorem month_of (d a x : Int) (e : x = a) (h1 : ¬ a < 22800) (h2 : ¬ a ≥ 26400) :
    ((cal_length.f (wrap64 (Int.tdiv x 12)) (wrap64 ((Int.tmod x 12) + 1))).bind fun t => (some (wrap64 (Int.tdiv x 12), wrap64 ((Int.tmod x 12) + 1), mn d t, (0 : Int)))) = some (monthV a d) := by
  subst e
  rw [Int.tdiv_eq_ediv_of_nonneg (by omega), Int.tmod_eq_emod_of_nonneg (by omega), w64 (x / 12) (by omega) (by omega), w64 (x % 12 + 1) (by omega) (by omega), length_eq _ _ (by omega) (by omega) (by omega)]
  unfold monthV mn
  rw [if_neg (by omega)]; rfl

theorem add_eq (k : Nat) (y m d t u n : Int) : cal_Add.f (k + 320) y m d t u n = some (addV y m d t u n) := by
  unfold cal_Add.f
  rw [day_eq (k + 307), tenor_eq]; simp only [Option.bind_some]
  cases ht : tenor t u with
  | false => rw [addV_tenor _ _ _ _ _ _ ht]; rfl
  | true =>
    have hT := (tenor_iff _ _).1 ht
    rw [if_pos rfl]; unfold dayV
    cases h : ok y m d with
    | false => rw [addV_date _ _ _ _ _ _ ht h]; rfl
    | true =>
      have o := (ok_iff _ _ _).1 h
      have nn := num_in _ _ _ h
      rw [if_pos rfl]; dsimp only; rw [if_pos rfl]
      by_cases f1 : n > 109572
      · rw [if_pos f1, addV_far _ _ _ _ _ _ ht h (.inl f1)]
      · rw [if_neg f1]
        by_cases f2 : n < (-109572)
        · rw [if_pos f2, addV_far _ _ _ _ _ _ ht h (.inr f2)]
        · rw [if_neg f2, addV_near _ _ _ _ _ _ ht h (by omega)]
          have b := mul_bd t n 109572 (by omega) (by omega) (by omega) (by omega) (by omega)
          by_cases u1 : u = 1
          · rw [if_pos u1, if_pos u1, w64 (t * n) (by omega) (by omega), w64 _ (by omega) (by omega), date_eq k]; rfl
          · rw [if_neg u1, if_neg u1]
            by_cases u2 : u = 2
            · have e7 : 7 * t * n = 7 * (t * n) := by rw [Int.mul_assoc]
              rw [if_pos u2, if_pos u2, w64 (7 * t) (by omega) (by omega), w64 (7 * t * n) (by omega) (by omega), w64 _ (by omega) (by omega), date_eq k]; rfl
            · rw [if_neg u2, if_neg u2]
              have e0 : wrap64 (wrap64 (wrap64 (12 * y) + m) - 1) = 12 * y + m - 1 := by
                rw [w64 (12 * y) (by omega) (by omega), w64 (12 * y + m) (by omega) (by omega), w64 _ (by omega) (by omega)]
              by_cases u4 : u = 4
              · have e1 : wrap64 (wrap64 (wrap64 (wrap64 (12 * y) + m) - 1) + wrap64 (wrap64 (t * n) * 12)) = 12 * y + m - 1 + 12 * (t * n) := by
                  rw [e0, w64 (t * n) (by omega) (by omega), w64 (t * n * 12) (by omega) (by omega), w64 _ (by omega) (by omega)]; omega
                rw [if_pos u4, if_pos u4, e1]
                by_cases g1 : 12 * y + m - 1 + 12 * (t * n) < 22800
                · rw [if_pos g1]; unfold monthV; rw [if_pos (.inl g1)]
                · rw [if_neg g1]
                  by_cases g2 : 12 * y + m - 1 + 12 * (t * n) ≥ 26400
                  · rw [if_pos g2]; unfold monthV; rw [if_pos (.inr g2)]
                  · rw [if_neg g2]; exact month_of _ _ _ rfl g1 g2
              · have e1 : wrap64 (wrap64 (wrap64 (wrap64 (12 * y) + m) - 1) + wrap64 (t * n)) = 12 * y + m - 1 + t * n := by
                  rw [e0, w64 (t * n) (by omega) (by omega), w64 _ (by omega) (by omega)]
                rw [if_neg u4, if_neg u4, e1]
                by_cases g1 : 12 * y + m - 1 + t * n < 22800
                · rw [if_pos g1]; unfold monthV; rw [if_pos (.inl g1)]
                · rw [if_neg g1]
                  by_cases g2 : 12 * y + m - 1 + t * n ≥ 26400
                  · rw [if_pos g2]; unfold monthV; rw [if_pos (.inr g2)]
                  · rw [if_neg g2]; exact month_of _ _ _ rfl g1 g2

/-- The document's Add at its months, from the number on. -/
theorem radd_months (k : Nat) (x a y m d : Int) (hx : wrap64 (wrap64 (wrap64 (x + wrap64 (12 * y)) + m) - 1) = a) : payoffref02_Add.j1 (k + 5) x y m d = some (monthV a d) := by
  simp only [payoffref02_Add.j1]
  rw [hx]
  by_cases g1 : a < 22800
  · rw [if_pos g1]; simp only [payoffref02_Add.j2]; rw [if_pos trivial]; unfold monthV; rw [if_pos (.inl g1)]
  · rw [if_neg g1]; simp only [payoffref02_Add.j2]
    by_cases g2 : a ≥ 26400
    · rw [decide_eq_true g2, if_pos rfl]; unfold monthV; rw [if_pos (.inr g2)]
    · rw [decide_eq_false g2, if_neg (by decide)]
      rw [Int.tdiv_eq_ediv_of_nonneg (by omega), Int.tmod_eq_emod_of_nonneg (by omega), w64 (a / 12) (by omega) (by omega), w64 (a % 12 + 1) (by omega) (by omega), rlen_eq _ _ _ (by omega) (by omega) (by omega) (by omega)]
      simp only [Option.bind_some]
      unfold monthV
      rw [if_neg (show ¬ (a < 22800 ∨ 26400 ≤ a) by omega)]
      by_cases g3 : d > len (a / 12) (a % 12 + 1)
      · rw [if_pos g3, if_pos g3]
      · rw [if_neg g3, if_neg g3]

theorem radd_eq (k : Nat) (y m d t u n : Int) : payoffref02_Add.f (k + 330) y m d t u n = some (addV y m d t u n) := by
  unfold payoffref02_Add.f
  rw [rday_eq (k + 10), rtenor_eq]; simp only [Option.bind_some]
  cases ht : tenor t u with
  | false => rw [addV_tenor _ _ _ _ _ _ ht]; rfl
  | true =>
    have hT := (tenor_iff _ _).1 ht
    rw [if_pos rfl]; unfold dayV
    cases h : ok y m d with
    | false => rw [addV_date _ _ _ _ _ _ ht h]; rfl
    | true =>
      have o := (ok_iff _ _ _).1 h
      have nn := num_in _ _ _ h
      rw [if_pos rfl]; dsimp only; rw [if_pos rfl]
      have far : ∀ b, (b = true ↔ n < -109573 ∨ n > 109573) → payoffref02_Add.j0 (k + 330) n (num y m d) b y m d t u = some (addV y m d t u n) := by
        intro b hb
        simp only [payoffref02_Add.j0]
        cases b with
        | true =>
          have := hb.1 rfl
          rw [if_pos rfl, addV_far _ _ _ _ _ _ ht h (by omega)]
        | false =>
          have hn : ¬ (n < -109573 ∨ n > 109573) := fun hh => by simpa using hb.2 hh
          rw [if_neg (by decide)]
          have b := mul_bd t n 109573 (by omega) (by omega) (by omega) (by omega) (by omega)
          have hfar : 109572 < n ∨ n < -109572 → (109573 ≤ t * n ∨ t * n ≤ -109573) := by
            intro hh
            rcases hh with hh | hh
            · obtain rfl : n = 109573 := by omega
              left; omega
            · obtain rfl : n = -109573 := by omega
              right; omega
          have e7 : 7 * t * n = 7 * (t * n) := by rw [Int.mul_assoc]
          by_cases u1 : u = 1
          · rw [if_pos u1, w64 (t * n) (by omega) (by omega), w64 _ (by omega) (by omega), rdate_eq (k + 9)]
            by_cases hf : 109572 < n ∨ n < -109572
            · have := hfar hf
              rw [addV_far _ _ _ _ _ _ ht h hf, dateV_out _ (by omega)]; rfl
            · rw [addV_near _ _ _ _ _ _ ht h hf, if_pos u1]; rfl
          · rw [if_neg u1]
            by_cases u2 : u = 2
            · rw [if_pos u2, w64 (7 * t) (by omega) (by omega), w64 (7 * t * n) (by omega) (by omega), w64 _ (by omega) (by omega), rdate_eq (k + 9)]
              by_cases hf : 109572 < n ∨ n < -109572
              · have := hfar hf
                rw [addV_far _ _ _ _ _ _ ht h hf, dateV_out _ (by omega)]; rfl
              · rw [addV_near _ _ _ _ _ _ ht h hf, if_neg u1, if_pos u2]; rfl
            · rw [if_neg u2]
              by_cases u4 : u = 4
              · rw [if_pos u4, radd_months (k + 324) _ (12 * y + m - 1 + 12 * (t * n)) y m d (by
                  rw [w64 (12 * y) (by omega) (by omega), w64 (t * n) (by omega) (by omega), w64 (12 * (t * n)) (by omega) (by omega), w64 (12 * (t * n) + 12 * y) (by omega) (by omega), w64 (12 * (t * n) + 12 * y + m) (by omega) (by omega), w64 _ (by omega) (by omega)]; omega)]
                by_cases hf : 109572 < n ∨ n < -109572
                · have := hfar hf
                  rw [addV_far _ _ _ _ _ _ ht h hf]; unfold monthV; rw [if_pos (by omega)]
                · rw [addV_near _ _ _ _ _ _ ht h hf, if_neg u1, if_neg u2, if_pos u4]
              · rw [if_neg u4, radd_months (k + 324) _ (12 * y + m - 1 + t * n) y m d (by
                  rw [w64 (12 * y) (by omega) (by omega), w64 (t * n) (by omega) (by omega), w64 (t * n + 12 * y) (by omega) (by omega), w64 (t * n + 12 * y + m) (by omega) (by omega), w64 _ (by omega) (by omega)]; omega)]
                by_cases hf : 109572 < n ∨ n < -109572
                · have := hfar hf
                  rw [addV_far _ _ _ _ _ _ ht h hf]; unfold monthV; rw [if_pos (by omega)]
                · rw [addV_near _ _ _ _ _ _ ht h hf, if_neg u1, if_neg u2, if_neg u4]
      by_cases g : n > 109573
      · rw [if_pos g]; exact far true (by simp [g])
      · rw [if_neg g]; exact far _ (by rw [decide_eq_true_iff]; omega)

end Go.Proofs.YtdebllinaffceaaDoor.Plain
