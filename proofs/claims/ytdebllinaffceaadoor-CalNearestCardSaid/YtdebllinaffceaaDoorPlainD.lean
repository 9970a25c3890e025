/- What cal.Day and cal.Date compute. -/
import Derived.Test.YtdebllinaffceaaDoorPlainC
import Derived.Test.YtdebllinaffceaaDoorMCalDay
import Derived.Test.YtdebllinaffceaaDoorMCalDate
namespace Go.Proofs.YtdebllinaffceaaDoor.Plain
open Go.RowKit Go.Proofs.YtdebllinaffceaaDoor.M Go.Proofs.YtdebllinaffceaaDoorW.PrintWords Go.Proofs.YtdebllinaffceaaDoorW.PrintLast

theorem w64 (x : Int) (h : -9223372036854775808 ≤ x) (h2 : x ≤ 9223372036854775807) : wrap64 x = x := by unfold wrap64; omega

theorem before_eq (y : Int) (h1 : 1900 ≤ y) (h2 : y ≤ 2300) : cal_before.f y = some (bef y) := by
  unfold cal_before.f bef
  rw [w64 (y - 1) (by omega) (by omega), Int.tdiv_eq_ediv_of_nonneg (by omega), Int.tdiv_eq_ediv_of_nonneg (by omega), Int.tdiv_eq_ediv_of_nonneg (by omega), w64 (y - 1900) (by omega) (by omega)]
  rw [w64 (365 * (y - 1900)) (by omega) (by omega), w64 ((y - 1) / 4) (by omega) (by omega), w64 ((y - 1) / 100) (by omega) (by omega), w64 ((y - 1) / 400) (by omega) (by omega), w64 ((y - 1) / 4 - (y - 1) / 100) (by omega) (by omega),
    w64 ((y - 1) / 4 - (y - 1) / 100 + (y - 1) / 400) (by omega) (by omega), w64 (365 * (y - 1900) + ((y - 1) / 4 - (y - 1) / 100 + (y - 1) / 400)) (by omega) (by omega), w64 _ (by omega) (by omega)]

theorem inside_eq (a : Int) : cal_inside.f a = some (decide (0 ≤ a ∧ a ≤ 109572)) := by
  unfold cal_inside.f
  by_cases h : a ≥ 0
  · rw [if_pos h]; congr 1; rw [decide_eq_decide]; omega
  · rw [if_neg h]; congr 1; rw [eq_comm, decide_eq_false_iff_not]; omega

theorem day_loop (y M d : Int) (hy : 0 ≤ y) (hM : M ≤ 12) : ∀ (n : Nat) (k : Nat) (x m : Int), 1 ≤ m → m + n = M → n < k → -400000 ≤ x → x + cum y M - cum y m ≤ 400000 →
    cal_Day.l0 k x m y M d = some (x + cum y M - cum y m, 0) := by
  intro n
  induction n with
  | zero =>
    intro k x m h1 h2 hk _ _
    obtain ⟨k, rfl⟩ : ∃ j, k = j + 1 := ⟨k - 1, by omega⟩
    simp only [cal_Day.l0]
    obtain rfl : m = M := by omega
    rw [if_neg (by omega)]; congr 2; omega
  | succ n ih =>
    intro k x m h1 h2 hk hx hx2
    obtain ⟨k, rfl⟩ : ∃ j, k = j + 1 := ⟨k - 1, by omega⟩
    simp only [cal_Day.l0]
    have c := cum_succ y m h1 (by omega)
    have l := len_pos y m
    have c2 := cum_mono y (m + 1) M (by omega) (by omega) (by omega)
    rw [if_pos (by omega), length_eq y m hy h1 (by omega)]; simp only [Option.bind_some]
    rw [w64 (x + len y m) (by omega) (by omega), w64 (m + 1) (by omega) (by omega), ih k (x + len y m) (m + 1) (by omega) (by omega) (by omega) (by omega) (by omega)]
    congr 2; omega

theorem day_in (k : Nat) (y m d : Int) (h : ok y m d = true) : cal_Day.f (k + 13) y m d = some (num y m d, 0) := by
  have n := num_in _ _ _ h
  have o := (ok_iff _ _ _).1 h
  have l := len_pos y m
  have c := cum_pos y m (by omega) (by omega)
  have bb := bef_le 1900 y (by omega)
  rw [bef_first] at bb
  unfold cal_Day.f
  rw [exists_eq, h]; simp only [Option.bind_some, if_true]
  rw [before_eq y (by omega) (by omega)]; simp only [Option.bind_some]
  rw [w64 (bef y + d) (by omega) (by omega), w64 (bef y + d - 1) (by omega) (by omega), day_loop y m d (by omega) (by omega) (m - 1).toNat (k + 13) (bef y + d - 1) 1 (by omega) (by omega) (by omega) (by omega) (by rw [cum_first]; omega), cum_first]
  unfold num; congr 2; omega

theorem day_out (k : Nat) (y m d : Int) (h : ok y m d = false) : cal_Day.f k y m d = some (0, 21) := by
  unfold cal_Day.f
  rw [exists_eq, h]; simp

/-- The loop over the months. -/
theorem date_months (y d0 day : Int) (h1 : 1900 ≤ y) (h2 : y ≤ 2199) (hd : day < bef (y + 1)) : ∀ (n : Nat) (k : Nat) (m : Int), 1 ≤ m → m + n = 13 → n ≤ k → bef y + cum y m ≤ day →
    ∃ m' d', cal_Date.l1 k (day - bef y - cum y m) y m d0 = some (y, m', d', 0) ∧ ok y m' d' = true ∧ num y m' d' = day := by
  intro n
  induction n with
  | zero =>
    intro k m hm h3 _ hle
    obtain rfl : m = 13 := by omega
    have := bef_succ y
    rw [cum_last] at hle; omega
  | succ n ih =>
    intro k m hm h3 hk hle
    obtain ⟨k, rfl⟩ : ∃ j, k = j + 1 := ⟨k - 1, by omega⟩
    have c := cum_succ y m hm (by omega)
    have l := len_pos y m
    have b1 := bef_succ y
    have b2 := yl_pos y
    have b3 := cum_pos y m (by omega) (by omega)
    simp only [cal_Date.l1]
    rw [length_eq y m (by omega) hm (by omega)]; simp only [Option.bind_some]
    by_cases g : day - bef y - cum y m ≥ len y m
    · rw [if_pos g]
      obtain ⟨m', d', e, q⟩ := ih k (m + 1) (by omega) (by omega) (by omega) (by omega)
      refine ⟨m', d', ?_, q⟩
      rw [w64 _ (by omega) (by omega), w64 _ (by omega) (by omega), ← e]
      congr 1; omega
    · rw [if_neg g]
      have q := num_of day y m h1 h2 hm (by omega) hle (by omega)
      refine ⟨m, _, ?_, q⟩
      rw [w64 _ (by omega) (by omega)]

/-- The loop over the years. -/
theorem date_years (day : Int) (h0 : 0 ≤ day) (h9 : day ≤ 109572) : ∀ (n : Nat) (k : Nat) (y : Int), 1900 ≤ y → y + n = 2199 → n + 14 ≤ k → bef y ≤ day →
    ∃ y' m' d', cal_Date.l0 k day y 1 0 = some (y', m', d', 0) ∧ ok y' m' d' = true ∧ num y' m' d' = day := by
  intro n
  induction n with
  | zero =>
    intro k y hy h3 hk hle
    obtain rfl : y = 2199 := by omega
    obtain ⟨k, rfl⟩ : ∃ j, k = j + 1 := ⟨k - 1, by omega⟩
    simp only [cal_Date.l0]
    have e : wrap64 ((2199 : Int) + 1) = 2200 := by unfold wrap64; omega
    have bl := bef_last
    rw [e, before_eq 2200 (by omega) (by omega)]; simp only [Option.bind_some]
    rw [if_neg (by omega), before_eq 2199 (by omega) (by omega)]; simp only [Option.bind_some]
    have b := bef_le 2199 2200 (by omega)
    obtain ⟨m', d', q, r⟩ := date_months 2199 0 day (by omega) (by omega) (by show day < bef 2200; omega) 12 k 1 (by omega) (by omega) (by omega) (by rw [cum_first]; omega)
    rw [w64 _ (by omega) (by omega)]
    rw [cum_first] at q
    exact ⟨2199, m', d', by rw [← q]; congr 1; omega, r⟩
  | succ n ih =>
    intro k y hy h3 hk hle
    obtain ⟨k, rfl⟩ : ∃ j, k = j + 1 := ⟨k - 1, by omega⟩
    simp only [cal_Date.l0]
    rw [w64 (y + 1) (by omega) (by omega), before_eq (y + 1) (by omega) (by omega)]; simp only [Option.bind_some]
    by_cases g : bef (y + 1) ≤ day
    · rw [if_pos g]; exact ih k (y + 1) (by omega) (by omega) (by omega) g
    · rw [if_neg g, before_eq y (by omega) (by omega)]; simp only [Option.bind_some]
      have b := bef_le 1900 y (by omega)
      rw [bef_first] at b
      obtain ⟨m', d', q, r⟩ := date_months y 0 day (by omega) (by omega) (by omega) 12 k 1 (by omega) (by omega) (by omega) (by rw [cum_first]; omega)
      rw [w64 _ (by omega) (by omega)]
      rw [cum_first] at q
      exact ⟨y, m', d', by rw [← q]; congr 1; omega, r⟩

theorem date_in (k : Nat) (day : Int) (h0 : 0 ≤ day) (h9 : day ≤ 109572) :
    ∃ y m d, cal_Date.f (k + 320) day = some (y, m, d, 0) ∧ ok y m d = true ∧ num y m d = day := by
  unfold cal_Date.f
  rw [inside_eq, decide_eq_true (⟨h0, h9⟩ : 0 ≤ day ∧ day ≤ 109572)]; simp only [Option.bind_some, if_true]
  rw [Int.tdiv_eq_ediv_of_nonneg h0, w64 (day / 366) (by omega) (by omega), w64 _ (by omega) (by omega)]
  have b := bef_le 1900 (1900 + day / 366) (by omega)
  rw [bef_first] at b
  exact date_years day h0 h9 (299 - day / 366).toNat (k + 320) (1900 + day / 366) (by omega) (by omega) (by omega) (by omega)

theorem date_out (k : Nat) (day : Int) (h : ¬ (0 ≤ day ∧ day ≤ 109572)) : cal_Date.f k day = some (0, 0, 0, 2) := by
  unfold cal_Date.f
  rw [inside_eq, decide_eq_false h]; simp

/-- The date of a date's number is that date. -/
theorem date_num (k : Nat) (y m d : Int) (h : ok y m d = true) : cal_Date.f (k + 320) (num y m d) = some (y, m, d, 0) := by
  have n := num_in _ _ _ h
  obtain ⟨y', m', d', e, h', q⟩ := date_in k (num y m d) (by omega) (by omega)
  obtain ⟨rfl, rfl, rfl⟩ := num_inj _ _ _ _ _ _ h' h q
  exact e

end Go.Proofs.YtdebllinaffceaaDoor.Plain
