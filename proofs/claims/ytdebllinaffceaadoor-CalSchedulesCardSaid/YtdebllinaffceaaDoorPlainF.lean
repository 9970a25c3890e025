/- What the document's Add computes: the same plain function. -/
import Derived.Test.YtdebllinaffceaaDoorVWords
import Derived.Test.YtdebllinaffceaaDoorPlainL
import Derived.Test.YtdebllinaffceaaDoorPlainN
import Derived.Test.YtdebllinaffceaaDoorMPayoffref02Add
namespace Go.Proofs.YtdebllinaffceaaDoor.Plain
open Go.RowKit Go.Proofs.YtdebllinaffceaaDoor.M Go.Proofs.YtdebllinaffceaaDoorW.PrintWords Go.Proofs.YtdebllinaffceaaDoorW.PrintLast Go.Proofs.YtdebllinaffceaaDoorW.PrintMore

theorem rtenor_eq (n u : Int) : payoffref02_ValidTenor.f n u = some (tenor n u) := by
  rw [← tenor_eq]; rfl

/-- The document's Add at its months, from the number on. -/
theorem radd_months (k : Nat) (x a y m d : Int) (hx : wrap64 (wrap64 (wrap64 (x + wrap64 (12 * y)) + m) - 1) = a) : payoffref02_Add.j1 (k + 5) x y m d = some (monthV a d) := by
  simp only [payoffref02_Add.j1]
  rw [hx]
  by_cases g1 : a < 22800
  · rw [if_pos g1]; simp only [payoffref02_Add.j2]; rw [if_pos trivial]; unfold monthV; rw [if_pos (.inl g1)]
  · rw [if_neg g1]; simp only [payoffref02_Add.j2]
    by_cases g2 : a ≥ 26400
    · rw [decide_eq_true g2, if_pos rfl]; unfold monthV; rw [if_pos (.inr g2)]
    · rw [decide_eq_false g2, if_neg (by decide)]
      rw [Int.tdiv_eq_ediv_of_nonneg (by omega), Int.tmod_eq_emod_of_nonneg (by omega), w64 (a / 12) (by omega) (by omega), w64 (a % 12 + 1) (by omega) (by omega), rlen_eq _ _ _ (by omega) (by omega) (by omega) (by omega)]
      simp only [Option.bind_some]
      unfold monthV
      rw [if_neg (show ¬ (a < 22800 ∨ 26400 ≤ a) by omega)]
      by_cases g3 : d > len (a / 12) (a % 12 + 1)
      · rw [if_pos g3, if_pos g3]
      · rw [if_neg g3, if_neg g3]

theorem radd_eq (k : Nat) (y m d t u n : Int) : payoffref02_Add.f (k + 330) y m d t u n = some (addV y m d t u n) := by
  unfold payoffref02_Add.f
  rw [rday_eq (k + 10), rtenor_eq]; simp only [Option.bind_some]
  cases ht : tenor t u with
  | false => rw [addV_tenor _ _ _ _ _ _ ht]; rfl
  | true =>
    have hT := (tenor_iff _ _).1 ht
    rw [if_pos rfl]; unfold dayV
    cases h : ok y m d with
    | false => rw [addV_date _ _ _ _ _ _ ht h]; rfl
    | true =>
      have o := (ok_iff _ _ _).1 h
      have nn := num_in _ _ _ h
      rw [if_pos rfl]; dsimp only; rw [if_pos rfl]
      have far : ∀ b, (b = true ↔ n < -109573 ∨ n > 109573) → payoffref02_Add.j0 (k + 330) n (num y m d) b y m d t u = some (addV y m d t u n) := by
        intro b hb
        simp only [payoffref02_Add.j0]
        cases b with
        | true =>
          have := hb.1 rfl
          rw [if_pos rfl, addV_far _ _ _ _ _ _ ht h (by omega)]
        | false =>
          have hn : ¬ (n < -109573 ∨ n > 109573) := fun hh => by simpa using hb.2 hh
          rw [if_neg (by decide)]
          have b := mul_bd t n 109573 (by omega) (by omega) (by omega) (by omega) (by omega)
          have hfar : 109572 < n ∨ n < -109572 → (109573 ≤ t * n ∨ t * n ≤ -109573) := by
            intro hh
            rcases hh with hh | hh
            · obtain rfl : n = 109573 := by omega
              left; omega
            · obtain rfl : n = -109573 := by omega
              right; omega
          have e7 : 7 * t * n = 7 * (t * n) := by rw [Int.mul_assoc]
          by_cases u1 : u = 1
          · rw [if_pos u1, w64 (t * n) (by omega) (by omega), w64 _ (by omega) (by omega), rdate_eq (k + 9)]
            by_cases hf : 109572 < n ∨ n < -109572
            · have := hfar hf
              rw [addV_far _ _ _ _ _ _ ht h hf, dateV_out _ (by omega)]; rfl
            · rw [addV_near _ _ _ _ _ _ ht h hf, if_pos u1]; rfl
          · rw [if_neg u1]
            by_cases u2 : u = 2
            · rw [if_pos u2, w64 (7 * t) (by omega) (by omega), w64 (7 * t * n) (by omega) (by omega), w64 _ (by omega) (by omega), rdate_eq (k + 9)]
              by_cases hf : 109572 < n ∨ n < -109572
              · have := hfar hf
                rw [addV_far _ _ _ _ _ _ ht h hf, dateV_out _ (by omega)]; rfl
              · rw [addV_near _ _ _ _ _ _ ht h hf, if_neg u1, if_pos u2]; rfl
            · rw [if_neg u2]
              by_cases u4 : u = 4
              · rw [if_pos u4, radd_months (k + 324) _ (12 * y + m - 1 + 12 * (t * n)) y m d (by
                  rw [w64 (12 * y) (by omega) (by omega), w64 (t * n) (by omega) (by omega), w64 (12 * (t * n)) (by omega) (by omega), w64 (12 * (t * n) + 12 * y) (by omega) (by omega), w64 (12 * (t * n) + 12 * y + m) (by omega) (by omega), w64 _ (by omega) (by omega)]; omega)]
                by_cases hf : 109572 < n ∨ n < -109572
                · have := hfar hf
                  rw [addV_far _ _ _ _ _ _ ht h hf]; unfold monthV; rw [if_pos (by omega)]
                · rw [addV_near _ _ _ _ _ _ ht h hf, if_neg u1, if_neg u2, if_pos u4]
              · rw [if_neg u4, radd_months (k + 324) _ (12 * y + m - 1 + t * n) y m d (by
                  rw [w64 (12 * y) (by omega) (by omega), w64 (t * n) (by omega) (by omega), w64 (t * n + 12 * y) (by omega) (by omega), w64 (t * n + 12 * y + m) (by omega) (by omega), w64 _ (by omega) (by omega)]; omega)]
                by_cases hf : 109572 < n ∨ n < -109572
                · have := hfar hf
                  rw [addV_far _ _ _ _ _ _ ht h hf]; unfold monthV; rw [if_pos (by omega)]
                · rw [addV_near _ _ _ _ _ _ ht h hf, if_neg u1, if_neg u2, if_neg u4]
      by_cases g : n > 109573
      · rw [if_pos g]; exact far true (by simp [g])
      · rw [if_neg g]; exact far _ (by rw [decide_eq_true_iff]; omega)

end Go.Proofs.YtdebllinaffceaaDoor.Plain
