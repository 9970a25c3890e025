/- For any three dates: within days of the month up to the 30th the day count by 30/360 adds up along the way and turns its sign the other way about; a date that does not exist is refused; the sample year has 360 days. The arguments read as before. The package-level table cal.months is tied to the program's text. No other condition. -/
import Derived.Test.YtdebllinaffceaaDoorPlainB
import Derived.Test.YtdebllinaffceaaDoorMPayofflaw02CalSixty
namespace Go.Proofs.YtdebllinaffceaaDoor.Pure
open Go.RowKit Go.Proofs.YtdebllinaffceaaDoor.M Go.Proofs.YtdebllinaffceaaDoor.Plain Go.Proofs.YtdebllinaffceaaDoorW.PrintWords Go.Proofs.YtdebllinaffceaaDoorW.PrintLast

theorem thirty_val (y1 m1 d1 y2 m2 d2 : Int) (h1 : ok y1 m1 d1 = true) (h2 : ok y2 m2 d2 = true) (b1 : d1 ≤ 30) (b2 : d2 ≤ 30) :
    thirty y1 m1 d1 y2 m2 d2 = 360 * (y2 - y1) + 30 * (m2 - m1) + d2 - d1 := by
  have a := ok_le _ _ _ h1
  have b := ok_le _ _ _ h2
  unfold thirty
  rw [if_neg (show ¬ (d2 = 31 ∧ 30 ≤ d1) by omega), if_neg (show ¬ 30 < d1 by omega)]
  unfold wrap64
  omega

theorem thirty_any (k : Nat) (y1 m1 d1 y2 m2 d2 : Int) :
    ∃ x, cal_Thirty.f (k + 1) y1 m1 d1 y2 m2 d2 = some (x, if ok y1 m1 d1 = true ∧ ok y2 m2 d2 = true then 0 else 21) ∧ (ok y1 m1 d1 = true ∧ ok y2 m2 d2 = true → x = thirty y1 m1 d1 y2 m2 d2) ∧ (¬ (ok y1 m1 d1 = true ∧ ok y2 m2 d2 = true) → x = 0) := by
  by_cases h : ok y1 m1 d1 = true ∧ ok y2 m2 d2 = true
  · exact ⟨_, by rw [thirty_in k _ _ _ _ _ _ h.1 h.2, if_pos h], fun _ => rfl, fun hn => absurd h hn⟩
  · exact ⟨_, by rw [thirty_out k _ _ _ _ _ _ h, if_neg h], fun hn => absurd hn h, fun _ => rfl⟩

theorem CalSixty (a0_0 a0_1 a0_2 a1_0 a1_1 a1_2 a2_0 a2_1 a2_2 : Int) (_ : (Lit.int .i64 a0_0).wf = true) (_ : (Lit.int .i64 a0_1).wf = true) (_ : (Lit.int .i64 a0_2).wf = true) (_ : (Lit.int .i64 a1_0).wf = true) (_ : (Lit.int .i64 a1_1).wf = true) (_ : (Lit.int .i64 a1_2).wf = true) (_ : (Lit.int .i64 a2_0).wf = true) (_ : (Lit.int .i64 a2_1).wf = true) (_ : (Lit.int .i64 a2_2).wf = true) :
    ∃ k, payofflaw02_CalSixty.f k a0_0 a0_1 a0_2 a1_0 a1_1 a1_2 a2_0 a2_1 a2_2 = some true := by
  refine ⟨4, ?_⟩
  unfold payofflaw02_CalSixty.f
  have hs : cal_Thirty.f 4 2024 1 31 2025 1 30 = some (360, 0) := by
    rw [thirty_in 3 2024 1 31 2025 1 30 (by decide) (by decide)]
    have e : thirty 2024 1 31 2025 1 30 = 360 := by
      unfold thirty; rw [if_neg (by omega), if_pos (by omega)]; unfold wrap64; omega
    rw [e]
  rw [hs]; simp only [Option.bind_some, payofflaw02_num.f, if_true, payofflaw02_CalSixty.j0, bne_self_eq_false, Bool.false_eq_true, if_false]
  obtain ⟨x, hx, x1, x2⟩ := thirty_any 2 a0_0 a0_1 a0_2 a1_0 a1_1 a1_2
  obtain ⟨y, hy, y1, y2⟩ := thirty_any 2 a1_0 a1_1 a1_2 a2_0 a2_1 a2_2
  obtain ⟨z, hz, z1, z2⟩ := thirty_any 2 a0_0 a0_1 a0_2 a2_0 a2_1 a2_2
  obtain ⟨w, hw, w1, w2⟩ := thirty_any 2 a1_0 a1_1 a1_2 a0_0 a0_1 a0_2
  by_cases h01 : ok a0_0 a0_1 a0_2 = true ∧ ok a1_0 a1_1 a1_2 = true
  · rw [if_pos h01] at hx
    rw [if_pos ⟨h01.2, h01.1⟩] at hw
    by_cases h2 : ok a2_0 a2_1 a2_2 = true
    · rw [if_pos ⟨h01.2, h2⟩] at hy
      rw [if_pos ⟨h01.1, h2⟩] at hz
      rw [hx, hy, hz, hw]
      simp only [Option.bind_some, payofflaw02_num.f, if_true, payofflaw02_CalSixty.j1, bne_self_eq_false, Bool.false_eq_true, if_false]
      by_cases c0 : a0_2 > 30
      · rw [if_pos c0]
      · rw [if_neg c0]
        by_cases c1 : a1_2 > 30
        · rw [if_pos c1]
        · rw [if_neg c1]
          by_cases c2 : a2_2 > 30
          · rw [if_pos c2]
          · rw [if_neg c2]
            have e0 := thirty_val _ _ _ _ _ _ h01.1 h01.2 (by omega) (by omega)
            have e1 := thirty_val _ _ _ _ _ _ h01.2 h2 (by omega) (by omega)
            have e2 := thirty_val _ _ _ _ _ _ h01.1 h2 (by omega) (by omega)
            have e3 := thirty_val _ _ _ _ _ _ h01.2 h01.1 (by omega) (by omega)
            rw [x1 h01, y1 ⟨h01.2, h2⟩, z1 ⟨h01.1, h2⟩, w1 ⟨h01.2, h01.1⟩, e0, e1, e2, e3]
            have b0 := ok_le _ _ _ h01.1
            have b1 := ok_le _ _ _ h01.2
            have b2 := ok_le _ _ _ h2
            rw [if_pos (by unfold wrap64; omega)]
            congr 1
            rw [beq_iff_eq]
            unfold wrap64; omega
    · rw [if_neg (fun hh => h2 hh.2)] at hy hz
      rw [hx, hy, hz, hw]
      simp [payofflaw02_CalSixty.j1, payofflaw02_num.f]
  · rw [if_neg h01] at hx
    rw [if_neg (fun hh => h01 ⟨hh.2, hh.1⟩)] at hw
    rw [hx, hy, hz, hw]
    simp [x2 h01]

end Go.Proofs.YtdebllinaffceaaDoor.Pure
