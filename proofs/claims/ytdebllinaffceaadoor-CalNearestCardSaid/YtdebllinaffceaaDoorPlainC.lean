/- The numbers of dates, in plain mathematics: the days ahead of a year, ahead of a month, and that no two dates have one number. -/
import Derived.Test.YtdebllinaffceaaDoorPlainA
namespace Go.Proofs.YtdebllinaffceaaDoor.Plain

/-- The days ahead of a year. -/
def bef (y : Int) : Int := 365 * (y - 1900) + ((y - 1) / 4 - (y - 1) / 100 + (y - 1) / 400) - 460
def yl (y : Int) : Int := if leapY y then 366 else 365
/-- The days of a year ahead of a month. -/
def cum (y m : Int) : Int :=
  (if m = 1 then 0 else if m = 2 then 31 else if m = 3 then 59 else if m = 4 then 90 else if m = 5 then 120 else if m = 6 then 151 else if m = 7 then 181 else
    if m = 8 then 212 else if m = 9 then 243 else if m = 10 then 273 else if m = 11 then 304 else if m = 12 then 334 else 365) + (if 2 < m ∧ leapY y = true then 1 else 0)
/-- A date's number. -/
def num (y m d : Int) : Int := bef y + cum y m + d - 1

theorem leap_or (y : Int) : (leapY y = true ∧ y % 4 = 0 ∧ (y % 100 = 0 → y % 400 = 0)) ∨ (leapY y = false ∧ ¬ (y % 4 = 0 ∧ (y % 100 = 0 → y % 400 = 0))) := by
  unfold leapY
  by_cases h : y % 4 = 0 ∧ (y % 100 = 0 → y % 400 = 0)
  · exact .inl ⟨decide_eq_true h, h⟩
  · exact .inr ⟨decide_eq_false h, h⟩

theorem bef_succ (y : Int) : bef (y + 1) = bef y + yl y := by
  unfold bef yl
  rcases leap_or y with ⟨h, h1, h2⟩ | ⟨h, h1⟩ <;> rw [h] <;> simp <;> omega

theorem yl_pos (y : Int) : 365 ≤ yl y ∧ yl y ≤ 366 := by unfold yl; split <;> omega

theorem bef_mono (y : Int) (n : Nat) : bef y + 365 * n ≤ bef (y + n) := by
  induction n with
  | zero => simp
  | succ n ih =>
    have := bef_succ (y + n)
    have := yl_pos (y + n)
    have e : y + ((n + 1 : Nat) : Int) = y + n + 1 := by omega
    rw [e]; omega

theorem bef_up (y : Int) (n : Nat) : bef (y + n) ≤ bef y + 366 * n := by
  induction n with
  | zero => simp
  | succ n ih =>
    have := bef_succ (y + n)
    have := yl_pos (y + n)
    have e : y + ((n + 1 : Nat) : Int) = y + n + 1 := by omega
    rw [e]; omega

theorem bef_le (a b : Int) (h : a ≤ b) : bef a + 365 * (b - a) ≤ bef b ∧ bef b ≤ bef a + 366 * (b - a) := by
  obtain ⟨n, rfl⟩ : ∃ n : Nat, b = a + n := ⟨(b - a).toNat, by omega⟩
  have := bef_mono a n
  have := bef_up a n
  omega

theorem bef_first : bef 1900 = 0 := by decide
theorem bef_last : bef 2200 = 109573 := by decide

theorem cum_succ (y m : Int) (h1 : 1 ≤ m) (h2 : m ≤ 12) : cum y (m + 1) = cum y m + len y m := by
  have hh : m = 1 ∨ m = 2 ∨ m = 3 ∨ m = 4 ∨ m = 5 ∨ m = 6 ∨ m = 7 ∨ m = 8 ∨ m = 9 ∨ m = 10 ∨ m = 11 ∨ m = 12 := by omega
  unfold cum len
  cases leapY y <;> rcases hh with rfl | rfl | rfl | rfl | rfl | rfl | rfl | rfl | rfl | rfl | rfl | rfl <;> simp

theorem cum_first (y : Int) : cum y 1 = 0 := by unfold cum; simp
theorem cum_last (y : Int) : cum y 13 = yl y := by unfold cum yl; cases leapY y <;> simp

theorem cum_le (y a : Int) (n : Nat) (h1 : 1 ≤ a) (h2 : a + n ≤ 13) : cum y a + 28 * n ≤ cum y (a + n) := by
  induction n with
  | zero => simp
  | succ n ih =>
    have := cum_succ y (a + n) (by omega) (by omega)
    have := len_pos y (a + n)
    have := ih (by omega)
    have e : a + ((n + 1 : Nat) : Int) = a + n + 1 := by omega
    rw [e]; omega

theorem cum_mono (y a b : Int) (h1 : 1 ≤ a) (h : a ≤ b) (h2 : b ≤ 13) : cum y a + 28 * (b - a) ≤ cum y b := by
  obtain ⟨n, rfl⟩ : ∃ n : Nat, b = a + n := ⟨(b - a).toNat, by omega⟩
  have := cum_le y a n h1 h2
  omega

theorem cum_pos (y m : Int) (h1 : 1 ≤ m) (h2 : m ≤ 13) : 0 ≤ cum y m ∧ cum y m ≤ 366 := by
  have a := cum_mono y 1 m (by omega) h1 h2
  have b := cum_mono y m 13 h1 h2 (by omega)
  rw [cum_first] at a; rw [cum_last] at b
  have := yl_pos y
  omega

theorem ok_iff (y m d : Int) : ok y m d = true ↔ 1900 ≤ y ∧ y ≤ 2199 ∧ 1 ≤ m ∧ m ≤ 12 ∧ 1 ≤ d ∧ d ≤ len y m := by
  unfold ok; rw [decide_eq_true_iff]

theorem num_in (y m d : Int) (h : ok y m d = true) : bef y + cum y m ≤ num y m d ∧ num y m d < bef y + cum y (m + 1) ∧ bef y ≤ num y m d ∧ num y m d < bef (y + 1) ∧ 0 ≤ num y m d ∧ num y m d ≤ 109572 := by
  rw [ok_iff] at h
  have a := cum_succ y m (by omega) (by omega)
  have b := cum_mono y 1 m (by omega) (by omega) (by omega)
  have c := cum_mono y (m + 1) 13 (by omega) (by omega) (by omega)
  have d1 := bef_succ y
  have e := bef_le 1900 y (by omega)
  have f := bef_le (y + 1) 2200 (by omega)
  rw [cum_first] at b; rw [cum_last] at c; rw [bef_first] at e; rw [bef_last] at f
  unfold num
  omega

theorem num_inj (y m d y' m' d' : Int) (h : ok y m d = true) (h' : ok y' m' d' = true) (e : num y m d = num y' m' d') : y = y' ∧ m = m' ∧ d = d' := by
  have a := num_in _ _ _ h
  have b := num_in _ _ _ h'
  rw [ok_iff] at h h'
  have ey : y = y' := by
    rcases Int.lt_trichotomy y y' with g | g | g
    · have := bef_le (y + 1) y' (by omega); omega
    · exact g
    · have := bef_le (y' + 1) y (by omega); omega
  subst ey
  have em : m = m' := by
    rcases Int.lt_trichotomy m m' with g | g | g
    · have := cum_mono y (m + 1) m' (by omega) (by omega) (by omega); omega
    · exact g
    · have := cum_mono y (m' + 1) m (by omega) (by omega) (by omega); omega
  subst em
  refine ⟨rfl, rfl, ?_⟩
  unfold num at e; omega

/-- A number whose year and month are found is the number of a date. -/
theorem num_of (day y m : Int) (h1 : 1900 ≤ y) (h2 : y ≤ 2199) (h3 : 1 ≤ m) (h4 : m ≤ 12) (h5 : bef y + cum y m ≤ day) (h6 : day < bef y + cum y m + len y m) :
    ok y m (day - bef y - cum y m + 1) = true ∧ num y m (day - bef y - cum y m + 1) = day := by
  rw [ok_iff]; unfold num; omega

end Go.Proofs.YtdebllinaffceaaDoor.Plain
