/- What cal.Day and cal.Date compute. -/
import Derived.Test.YtdebllinaffceaaDoorVWords
import Derived.Test.YtdebllinaffceaaDoorMCalExists
import Derived.Test.YtdebllinaffceaaDoorMCalDay
import Derived.Test.YtdebllinaffceaaDoorMCalDate
namespace Go.Proofs.YtdebllinaffceaaDoor.Plain
open Go.RowKit Go.Proofs.YtdebllinaffceaaDoor.M Go.Proofs.YtdebllinaffceaaDoorW.PrintWords Go.Proofs.YtdebllinaffceaaDoorW.PrintLast

/-- A leap year. -/
def leapY (y : Int) : Bool := decide (y % 4 = 0 ∧ (y % 100 = 0 → y % 400 = 0))
/-- A month's length. -/
def len (y m : Int) : Int := if m = 2 then (if leapY y then 29 else 28) else if m = 4 ∨ m = 6 ∨ m = 9 ∨ m = 11 then 30 else 31
/-- The date exists. -/
def ok (y m d : Int) : Bool := decide (1900 ≤ y ∧ y ≤ 2199 ∧ 1 ≤ m ∧ m ≤ 12 ∧ 1 ≤ d ∧ d ≤ len y m)

theorem len_pos (y m : Int) : 28 ≤ len y m ∧ len y m ≤ 31 := by
  unfold len; split
  · split <;> omega
  · split <;> omega

theorem leap_eq (y : Int) (h : 0 ≤ y) : cal_leap.f y = some (leapY y) := by
  unfold cal_leap.f leapY
  rw [Int.tmod_eq_emod_of_nonneg h, Int.tmod_eq_emod_of_nonneg h, Int.tmod_eq_emod_of_nonneg h]
  by_cases h4 : y % 4 = 0
  · rw [if_pos h4]
    by_cases h1 : y % 100 = 0
    · rw [if_pos h1]; congr 1
      rw [Bool.eq_iff_iff]; simp [h4, h1]
    · rw [if_neg h1]; congr 1; symm; simp [h4, h1]
  · rw [if_neg h4]; congr 1; symm; simp [h4]

theorem tab_len (y m : Int) (h1 : 1 ≤ m) (h2 : m ≤ 12) (hm : m ≠ 2) : rd monthTab (m - 1) = len y m := by
  have hh : m = 1 ∨ m = 3 ∨ m = 4 ∨ m = 5 ∨ m = 6 ∨ m = 7 ∨ m = 8 ∨ m = 9 ∨ m = 10 ∨ m = 11 ∨ m = 12 := by omega
  rcases hh with rfl | rfl | rfl | rfl | rfl | rfl | rfl | rfl | rfl | rfl | rfl <;> rfl

theorem length_eq (y m : Int) (h : 0 ≤ y) (h1 : 1 ≤ m) (h2 : m ≤ 12) : cal_length.f y m = some (len y m) := by
  unfold cal_length.f
  by_cases c : m = 2
  · rw [if_pos c, leap_eq y h]; simp only [Option.bind_some]; unfold len; rw [if_pos c]
    cases leapY y <;> rfl
  · rw [if_neg c, if_pos h1, if_pos h2, tab_len y m h1 h2 c]

theorem exists_eq (y m d : Int) : cal_exists.f y m d = some (ok y m d) := by
  unfold cal_exists.f ok
  by_cases h1 : y ≥ 1900
  · rw [if_pos h1]
    by_cases h2 : y ≤ 2199
    · rw [if_pos h2]
      by_cases h3 : m ≥ 1
      · rw [if_pos h3]
        by_cases h4 : m ≤ 12
        · rw [if_pos h4]
          by_cases h5 : d ≥ 1
          · rw [if_pos h5, length_eq y m (by omega) h3 h4]; simp only [Option.bind_some]; congr 1; rw [decide_eq_decide]; omega
          · rw [if_neg h5]; congr 1; symm; rw [decide_eq_false_iff_not]; omega
        · rw [if_neg h4]; congr 1; symm; rw [decide_eq_false_iff_not]; omega
      · rw [if_neg h3]; congr 1; symm; rw [decide_eq_false_iff_not]; omega
    · rw [if_neg h2]; congr 1; symm; rw [decide_eq_false_iff_not]; omega
  · rw [if_neg h1]; congr 1; symm; rw [decide_eq_false_iff_not]; omega

end Go.Proofs.YtdebllinaffceaaDoor.Plain

namespace Go.Proofs.YtdebllinaffceaaDoor.Plain

/-- The days ahead of a year. -/
def bef (y : Int) : Int := 365 * (y - 1900) + ((y - 1) / 4 - (y - 1) / 100 + (y - 1) / 400) - 460
def yl (y : Int) : Int := if leapY y then 366 else 365
/-- The days of a year ahead of a month. -/
def cum (y m : Int) : Int :=
  (if m = 1 then 0 else if m = 2 then 31 else if m = 3 then 59 else if m = 4 then 90 else if m = 5 then 120 else if m = 6 then 151 else if m = 7 then 181 else
    if m = 8 then 212 else if m = 9 then 243 else if m = 10 then 273 else if m = 11 then 304 else if m = 12 then 334 else 365) + (if 2 < m ∧ leapY y = true then 1 else 0)
/-- A date's number. -/
def num (y m d : Int) : Int := bef y + cum y m + d - 1

theorem leap_or (y : Int) : (leapY y = true ∧ y % 4 = 0 ∧ (y % 100 = 0 → y % 400 = 0)) ∨ (leapY y = false ∧ ¬ (y % 4 = 0 ∧ (y % 100 = 0 → y % 400 = 0))) := by
  unfold leapY
  by_cases h : y % 4 = 0 ∧ (y % 100 = 0 → y % 400 = 0)
  · exact .inl ⟨decide_eq_true h, h⟩
  · exact .inr ⟨decide_eq_false h, h⟩

theorem bef_succ (y : Int) : bef (y + 1) = bef y + yl y := by
  unfold bef yl
  rcases leap_or y with ⟨h, h1, h2⟩ | ⟨h, h1⟩ <;> rw [h] <;> simp <;> omega

theorem yl_pos (y : Int) : 365 ≤ yl y ∧ yl y ≤ 366 := by unfold yl; split <;> omega

theorem bef_mono (y : Int) (n : Nat) : bef y + 365 * n ≤ bef (y + n) := by
  induction n with
  | zero => simp
  | succ n ih =>
    have := bef_succ (y + n)
    have := yl_pos (y + n)
    have e : y + ((n + 1 : Nat) : Int) = y + n + 1 := by omega
    rw [e]; omega

theorem bef_up (y : Int) (n : Nat) : bef (y + n) ≤ bef y + 366 * n := by
  induction n with
  | zero => simp
  | succ n ih =>
    have := bef_succ (y + n)
    have := yl_pos (y + n)
    have e : y + ((n + 1 : Nat) : Int) = y + n + 1 := by omega
    rw [e]; omega

theorem bef_le (a b : Int) (h : a ≤ b) : bef a + 365 * (b - a) ≤ bef b ∧ bef b ≤ bef a + 366 * (b - a) := by
  obtain ⟨n, rfl⟩ : ∃ n : Nat, b = a + n := ⟨(b - a).toNat, by omega⟩
  have := bef_mono a n
  have := bef_up a n
  omega

theorem bef_first : bef 1900 = 0 := by decide
theorem bef_last : bef 2200 = 109573 := by decide

theorem cum_succ (y m : Int) (h1 : 1 ≤ m) (h2 : m ≤ 12) : cum y (m + 1) = cum y m + len y m := by
  have hh : m = 1 ∨ m = 2 ∨ m = 3 ∨ m = 4 ∨ m = 5 ∨ m = 6 ∨ m = 7 ∨ m = 8 ∨ m = 9 ∨ m = 10 ∨ m = 11 ∨ m = 12 := by omega
  unfold cum len
  cases leapY y <;> rcases hh with rfl | rfl | rfl | rfl | rfl | rfl | rfl | rfl | rfl | rfl | rfl | rfl <;> simp

theorem cum_first (y : Int) : cum y 1 = 0 := by unfold cum; simp
theorem cum_last (y : Int) : cum y 13 = yl y := by unfold cum yl; cases leapY y <;> simp

theorem cum_le (y a : Int) (n : Nat) (h1 : 1 ≤ a) (h2 : a + n ≤ 13) : cum y a + 28 * n ≤ cum y (a + n) := by
  induction n with
  | zero => simp
  | succ n ih =>
    have := cum_succ y (a + n) (by omega) (by omega)
    have := len_pos y (a + n)
    have := ih (by omega)
    have e : a + ((n + 1 : Nat) : Int) = a + n + 1 := by omega
    rw [e]; omega

theorem cum_mono (y a b : Int) (h1 : 1 ≤ a) (h : a ≤ b) (h2 : b ≤ 13) : cum y a + 28 * (b - a) ≤ cum y b := by
  obtain ⟨n, rfl⟩ : ∃ n : Nat, b = a + n := ⟨(b - a).toNat, by omega⟩
  have := cum_le y a n h1 h2
  omega

theorem cum_pos (y m : Int) (h1 : 1 ≤ m) (h2 : m ≤ 13) : 0 ≤ cum y m ∧ cum y m ≤ 366 := by
  have a := cum_mono y 1 m (by omega) h1 h2
  have b := cum_mono y m 13 h1 h2 (by omega)
  rw [cum_first] at a; rw [cum_last] at b
  have := yl_pos y
  omega

theorem ok_iff (y m d : Int) : ok y m d = true ↔ 1900 ≤ y ∧ y ≤ 2199 ∧ 1 ≤ m ∧ m ≤ 12 ∧ 1 ≤ d ∧ d ≤ len y m := by
  unfold ok; rw [decide_eq_true_iff]

theorem num_in (y m d : Int) (h : ok y m d = true) : bef y + cum y m ≤ num y m d ∧ num y m d < bef y + cum y (m + 1) ∧ bef y ≤ num y m d ∧ num y m d < bef (y + 1) ∧ 0 ≤ num y m d ∧ num y m d ≤ 109572 := by
  rw [ok_iff] at h
  have a := cum_succ y m (by omega) (by omega)
  have b := cum_mono y 1 m (by omega) (by omega) (by omega)
  have c := cum_mono y (m + 1) 13 (by omega) (by omega) (by omega)
  have d1 := bef_succ y
  have e := bef_le 1900 y (by omega)
  have f := bef_le (y + 1) 2200 (by omega)
  rw [cum_first] at b; rw [cum_last] at c; rw [bef_first] at e; rw [bef_last] at f
  unfold num
  omega

theorem num_inj (y m d y' m' d' : Int) (h : ok y m d = true) (h' : ok y' m' d' = true) (e : num y m d = num y' m' d') : y = y' ∧ m = m' ∧ d = d' := by
  have a := num_in _ _ _ h
  have b := num_in _ _ _ h'
  rw [ok_iff] at h h'
  have ey : y = y' := by
    rcases Int.lt_trichotomy y y' with g | g | g
    · have := bef_le (y + 1) y' (by omega); omega
    · exact g
    · have := bef_le (y' + 1) y (by omega); omega
  subst ey
  have em : m = m' := by
    rcases Int.lt_trichotomy m m' with g | g | g
    · have := cum_mono y (m + 1) m' (by omega) (by omega) (by omega); omega
    · exact g
    · have := cum_mono y (m' + 1) m (by omega) (by omega) (by omega); omega
  subst em
  refine ⟨rfl, rfl, ?_⟩
  unfold num at e; omega

/-- A number whose year and month are found is the number of a date. -/
theorem num_of (day y m : Int) (h1 : 1900 ≤ y) (h2 : y ≤ 2199) (h3 : 1 ≤ m) (h4 : m ≤ 12) (h5 : bef y + cum y m ≤ day) (h6 : day < bef y + cum y m + len y m) :
    ok y m (day - bef y - cum y m + 1) = true ∧ num y m (day - bef y - cum y m + 1) = day := by
  rw [ok_iff]; unfold num; omega

end Go.Proofs.YtdebllinaffceaaDoor.Plain

namespace Go.Proofs.YtdebllinaffceaaDoor.Plain
open Go.RowKit Go.Proofs.YtdebllinaffceaaDoor.M Go.Proofs.YtdebllinaffceaaDoorW.PrintWords Go.Proofs.YtdebllinaffceaaDoorW.PrintLast

theorem w64 (x : Int) (h : -9223372036854775808 ≤ x) (h2 : x ≤ 9223372036854775807) : wrap64 x = x := by unfold wrap64; omega

theorem before_eq (y : Int) (h1 : 1900 ≤ y) (h2 : y ≤ 2300) : cal_before.f y = some (bef y) := by
  unfold cal_before.f bef
  rw [w64 (y - 1) (by omega) (by omega), Int.tdiv_eq_ediv_of_nonneg (by omega), Int.tdiv_eq_ediv_of_nonneg (by omega), Int.tdiv_eq_ediv_of_nonneg (by omega), w64 (y - 1900) (by omega) (by omega)]
  rw [w64 (365 * (y - 1900)) (by omega) (by omega), w64 ((y - 1) / 4) (by omega) (by omega), w64 ((y - 1) / 100) (by omega) (by omega), w64 ((y - 1) / 400) (by omega) (by omega), w64 ((y - 1) / 4 - (y - 1) / 100) (by omega) (by omega),
    w64 ((y - 1) / 4 - (y - 1) / 100 + (y - 1) / 400) (by omega) (by omega), w64 (365 * (y - 1900) + ((y - 1) / 4 - (y - 1) / 100 + (y - 1) / 400)) (by omega) (by omega), w64 _ (by omega) (by omega)]

theorem inside_eq (a : Int) : cal_inside.f a = some (decide (0 ≤ a ∧ a ≤ 109572)) := by
  unfold cal_inside.f
  by_cases h : a ≥ 0
  · rw [if_pos h]; congr 1; rw [decide_eq_decide]; omega
  · rw [if_neg h]; congr 1; rw [eq_comm, decide_eq_false_iff_not]; omega

theorem day_loop (y M d : Int) (hy : 0 ≤ y) (hM : M ≤ 12) : ∀ (n : Nat) (k : Nat) (x m : Int), 1 ≤ m → m + n = M → n < k → -400000 ≤ x → x + cum y M - cum y m ≤ 400000 →
    cal_Day.l0 k x m y M d = some (x + cum y M - cum y m, 0) := by
  intro n
  induction n with
  | zero =>
    intro k x m h1 h2 hk _ _
    obtain ⟨k, rfl⟩ : ∃ j, k = j + 1 := ⟨k - 1, by omega⟩
    simp only [cal_Day.l0]
    obtain rfl : m = M := by omega
    rw [if_neg (by omega)]; congr 2; omega
  | succ n ih =>
    intro k x m h1 h2 hk hx hx2
    obtain ⟨k, rfl⟩ : ∃ j, k = j + 1 := ⟨k - 1, by omega⟩
    simp only [cal_Day.l0]
    have c := cum_succ y m h1 (by omega)
    have l := len_pos y m
    have c2 := cum_mono y (m + 1) M (by omega) (by omega) (by omega)
    rw [if_pos (by omega), length_eq y m hy h1 (by omega)]; simp only [Option.bind_some]
    rw [w64 (x + len y m) (by omega) (by omega), w64 (m + 1) (by omega) (by omega), ih k (x + len y m) (m + 1) (by omega) (by omega) (by omega) (by omega) (by omega)]
    congr 2; omega

theorem day_in (k : Nat) (y m d : Int) (h : ok y m d = true) : cal_Day.f (k + 13) y m d = some (num y m d, 0) := by
  have n := num_in _ _ _ h
  have o := (ok_iff _ _ _).1 h
  have l := len_pos y m
  have c := cum_pos y m (by omega) (by omega)
  have bb := bef_le 1900 y (by omega)
  rw [bef_first] at bb
  unfold cal_Day.f
  rw [exists_eq, h]; simp only [Option.bind_some, if_true]
  rw [before_eq y (by omega) (by omega)]; simp only [Option.bind_some]
  rw [w64 (bef y + d) (by omega) (by omega), w64 (bef y + d - 1) (by omega) (by omega), day_loop y m d (by omega) (by omega) (m - 1).toNat (k + 13) (bef y + d - 1) 1 (by omega) (by omega) (by omega) (by omega) (by rw [cum_first]; omega), cum_first]
  unfold num; congr 2; omega

theorem day_out (k : Nat) (y m d : Int) (h : ok y m d = false) : cal_Day.f k y m d = some (0, 21) := by
  unfold cal_Day.f
  rw [exists_eq, h]; simp

/-- The loop over the months. -/
theorem date_months (y d0 day : Int) (h1 : 1900 ≤ y) (h2 : y ≤ 2199) (hd : day < bef (y + 1)) : ∀ (n : Nat) (k : Nat) (m : Int), 1 ≤ m → m + n = 13 → n ≤ k → bef y + cum y m ≤ day →
    ∃ m' d', cal_Date.l1 k (day - bef y - cum y m) y m d0 = some (y, m', d', 0) ∧ ok y m' d' = true ∧ num y m' d' = day := by
  intro n
  induction n with
  | zero =>
    intro k m hm h3 _ hle
    obtain rfl : m = 13 := by omega
    have := bef_succ y
    rw [cum_last] at hle; omega
  | succ n ih =>
    intro k m hm h3 hk hle
    obtain ⟨k, rfl⟩ : ∃ j, k = j + 1 := ⟨k - 1, by omega⟩
    have c := cum_succ y m hm (by omega)
    have l := len_pos y m
    have b1 := bef_succ y
    have b2 := yl_pos y
    have b3 := cum_pos y m (by omega) (by omega)
    simp only [cal_Date.l1]
    rw [length_eq y m (by omega) hm (by omega)]; simp only [Option.bind_some]
    by_cases g : day - bef y - cum y m ≥ len y m
    · rw [if_pos g]
      obtain ⟨m', d', e, q⟩ := ih k (m + 1) (by omega) (by omega) (by omega) (by omega)
      refine ⟨m', d', ?_, q⟩
      rw [w64 _ (by omega) (by omega), w64 _ (by omega) (by omega), ← e]
      congr 1; omega
    · rw [if_neg g]
      have q := num_of day y m h1 h2 hm (by omega) hle (by omega)
      refine ⟨m, _, ?_, q⟩
      rw [w64 _ (by omega) (by omega)]

/-- The loop over the years. -/
theorem date_years (day : Int) (h0 : 0 ≤ day) (h9 : day ≤ 109572) : ∀ (n : Nat) (k : Nat) (y : Int), 1900 ≤ y → y + n = 2199 → n + 14 ≤ k → bef y ≤ day →
    ∃ y' m' d', cal_Date.l0 k day y 1 0 = some (y', m', d', 0) ∧ ok y' m' d' = true ∧ num y' m' d' = day := by
  intro n
  induction n with
  | zero =>
    intro k y hy h3 hk hle
    obtain rfl : y = 2199 := by omega
    obtain ⟨k, rfl⟩ : ∃ j, k = j + 1 := ⟨k - 1, by omega⟩
    simp only [cal_Date.l0]
    have e : wrap64 ((2199 : Int) + 1) = 2200 := by unfold wrap64; omega
    have bl := bef_last
    rw [e, before_eq 2200 (by omega) (by omega)]; simp only [Option.bind_some]
    rw [if_neg (by omega), before_eq 2199 (by omega) (by omega)]; simp only [Option.bind_some]
    have b := bef_le 2199 2200 (by omega)
    obtain ⟨m', d', q, r⟩ := date_months 2199 0 day (by omega) (by omega) (by show day < bef 2200; omega) 12 k 1 (by omega) (by omega) (by omega) (by rw [cum_first]; omega)
    rw [w64 _ (by omega) (by omega)]
    rw [cum_first] at q
    exact ⟨2199, m', d', by rw [← q]; congr 1; omega, r⟩
  | succ n ih =>
    intro k y hy h3 hk hle
    obtain ⟨k, rfl⟩ : ∃ j, k = j + 1 := ⟨k - 1, by omega⟩
    simp only [cal_Date.l0]
    rw [w64 (y + 1) (by omega) (by omega), before_eq (y + 1) (by omega) (by omega)]; simp only [Option.bind_some]
    by_cases g : bef (y + 1) ≤ day
    · rw [if_pos g]; exact ih k (y + 1) (by omega) (by omega) (by omega) g
    · rw [if_neg g, before_eq y (by omega) (by omega)]; simp only [Option.bind_some]
      have b := bef_le 1900 y (by omega)
      rw [bef_first] at b
      obtain ⟨m', d', q, r⟩ := date_months y 0 day (by omega) (by omega) (by omega) 12 k 1 (by omega) (by omega) (by omega) (by rw [cum_first]; omega)
      rw [w64 _ (by omega) (by omega)]
      rw [cum_first] at q
      exact ⟨y, m', d', by rw [← q]; congr 1; omega, r⟩

theorem date_in (k : Nat) (day : Int) (h0 : 0 ≤ day) (h9 : day ≤ 109572) :
    ∃ y m d, cal_Date.f (k + 320) day = some (y, m, d, 0) ∧ ok y m d = true ∧ num y m d = day := by
  unfold cal_Date.f
  rw [inside_eq, decide_eq_true (⟨h0, h9⟩ : 0 ≤ day ∧ day ≤ 109572)]; simp only [Option.bind_some, if_true]
  rw [Int.tdiv_eq_ediv_of_nonneg h0, w64 (day / 366) (by omega) (by omega), w64 _ (by omega) (by omega)]
  have b := bef_le 1900 (1900 + day / 366) (by omega)
  rw [bef_first] at b
  exact date_years day h0 h9 (299 - day / 366).toNat (k + 320) (1900 + day / 366) (by omega) (by omega) (by omega) (by omega)

theorem date_out (k : Nat) (day : Int) (h : ¬ (0 ≤ day ∧ day ≤ 109572)) : cal_Date.f k day = some (0, 0, 0, 2) := by
  unfold cal_Date.f
  rw [inside_eq, decide_eq_false h]; simp

/-- The date of a date's number is that date. -/
theorem date_num (k : Nat) (y m d : Int) (h : ok y m d = true) : cal_Date.f (k + 320) (num y m d) = some (y, m, d, 0) := by
  have n := num_in _ _ _ h
  obtain ⟨y', m', d', e, h', q⟩ := date_in k (num y m d) (by omega) (by omega)
  obtain ⟨rfl, rfl, rfl⟩ := num_inj _ _ _ _ _ _ h' h q
  exact e

end Go.Proofs.YtdebllinaffceaaDoor.Plain
