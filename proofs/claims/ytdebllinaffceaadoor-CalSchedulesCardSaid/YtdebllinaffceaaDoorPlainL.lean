/- The document's Date and Day as the same plain functions. -/
import Derived.Test.YtdebllinaffceaaDoorVWords
import Derived.Test.YtdebllinaffceaaDoorPlainD
import Derived.Test.YtdebllinaffceaaDoorMPayoffref02Is
import Derived.Test.YtdebllinaffceaaDoorMPayoffref02Day
import Derived.Test.YtdebllinaffceaaDoorMPayoffref02Date
import Derived.Test.YtdebllinaffceaaDoorPlainK
namespace Go.Proofs.YtdebllinaffceaaDoor.Plain
open Go.RowKit Go.Proofs.YtdebllinaffceaaDoor.M Go.Proofs.YtdebllinaffceaaDoorW.PrintWords Go.Proofs.YtdebllinaffceaaDoorW.PrintLast

theorem rleap_eq (y : Int) (h : 0 ≤ y) : payoffref02_leap.f y = some (leapY y) := by
  unfold payoffref02_leap.f leapY
  rw [Int.tmod_eq_emod_of_nonneg h, Int.tmod_eq_emod_of_nonneg h, Int.tmod_eq_emod_of_nonneg h]
  by_cases h4 : y % 400 = 0
  · rw [if_pos h4]; congr 1; symm; rw [decide_eq_true_iff]; omega
  · rw [if_neg h4]
    by_cases h1 : y % 4 = 0
    · rw [if_pos h1]; congr 1
      rw [Bool.eq_iff_iff, bne_iff_ne, decide_eq_true_iff]; omega
    · rw [if_neg h1]; congr 1; symm; rw [decide_eq_false_iff_not]; omega

theorem rlength_eq (k : Nat) (y m : Int) (h : 0 ≤ y) : payoffref02_Length.f (k + 2) y m = some (if 1 ≤ m ∧ m ≤ 12 then len y m else 0) := by
  unfold payoffref02_Length.f
  have j1 : ∀ b, (b = true → m = 4 ∨ m = 6 ∨ m = 9 ∨ m = 11) → (b = false → ¬ (m = 4 ∨ m = 6 ∨ m = 9 ∨ m = 11)) → ¬ (m = 1 ∨ m = 3 ∨ m = 5 ∨ m = 7 ∨ m = 8 ∨ m = 10 ∨ m = 12) →
      payoffref02_Length.j1 (k + 1) y m b = some (if 1 ≤ m ∧ m ≤ 12 then len y m else 0) := by
    intro b ht hf hn
    simp only [payoffref02_Length.j1]
    cases b with
    | true =>
      have := ht rfl
      rw [if_pos rfl, if_pos (by omega)]; unfold len; rw [if_neg (by omega), if_pos this]
    | false =>
      have := hf rfl
      rw [if_neg (by decide)]
      by_cases c : m = 2
      · rw [if_pos c, rleap_eq y h, if_pos (by omega)]; simp only [Option.bind_some]; unfold len; rw [if_pos c]
        cases leapY y <;> rfl
      · rw [if_neg c, if_neg (by omega)]
  have j0 : ∀ b, (b = true → m = 1 ∨ m = 3 ∨ m = 5 ∨ m = 7 ∨ m = 8 ∨ m = 10 ∨ m = 12) → (b = false → ¬ (m = 1 ∨ m = 3 ∨ m = 5 ∨ m = 7 ∨ m = 8 ∨ m = 10 ∨ m = 12)) →
      payoffref02_Length.j0 (k + 2) y m b = some (if 1 ≤ m ∧ m ≤ 12 then len y m else 0) := by
    intro b ht hf
    simp only [payoffref02_Length.j0]
    cases b with
    | true =>
      have := ht rfl
      rw [if_pos rfl, if_pos (by omega)]; unfold len; rw [if_neg (by omega), if_neg (by omega)]
    | false =>
      have hn := hf rfl
      rw [if_neg (by decide)]
      by_cases c4 : m = 4
      · rw [if_pos c4]; exact j1 _ (fun _ => by omega) (fun hb => by simp [c4] at hb) hn
      · rw [if_neg c4]
        by_cases c6 : m = 6
        · rw [if_pos c6]; exact j1 _ (fun _ => by omega) (fun hb => by simp [c6] at hb) hn
        · rw [if_neg c6]
          by_cases c9 : m = 9
          · rw [if_pos c9]; exact j1 _ (fun _ => by omega) (fun hb => by simp [c9] at hb) hn
          · rw [if_neg c9]; exact j1 _ (fun hb => by rw [beq_iff_eq] at hb; omega) (fun hb => by rw [beq_eq_false_iff_ne] at hb; omega) hn
  by_cases c1 : m = 1
  · rw [if_pos c1]; exact j0 _ (fun _ => by omega) (fun hb => by simp [c1] at hb)
  · rw [if_neg c1]
    by_cases c3 : m = 3
    · rw [if_pos c3]; exact j0 _ (fun _ => by omega) (fun hb => by simp [c3] at hb)
    · rw [if_neg c3]
      by_cases c5 : m = 5
      · rw [if_pos c5]; exact j0 _ (fun _ => by omega) (fun hb => by simp [c5] at hb)
      · rw [if_neg c5]
        by_cases c7 : m = 7
        · rw [if_pos c7]; exact j0 _ (fun _ => by omega) (fun hb => by simp [c7] at hb)
        · rw [if_neg c7]
          by_cases c8 : m = 8
          · rw [if_pos c8]; exact j0 _ (fun _ => by omega) (fun hb => by simp [c8] at hb)
          · rw [if_neg c8]
            by_cases c10 : m = 10
            · rw [if_pos c10]; exact j0 _ (fun _ => by omega) (fun hb => by simp [c10] at hb)
            · rw [if_neg c10]; exact j0 _ (fun hb => by rw [beq_iff_eq] at hb; omega) (fun hb => by rw [beq_eq_false_iff_ne] at hb; omega)

theorem is_eq (k : Nat) (y m d : Int) : payoffref02_Is.f (k + 2) y m d = some (ok y m d) := by
  unfold payoffref02_Is.f ok
  by_cases h1 : y < 1900
  · rw [if_pos h1]; congr 1; symm; rw [decide_eq_false_iff_not]; omega
  · rw [if_neg h1]
    by_cases h2 : y > 2199
    · rw [if_pos h2]; congr 1; symm; rw [decide_eq_false_iff_not]; omega
    · rw [if_neg h2, rlength_eq k y m (by omega)]; simp only [Option.bind_some]
      by_cases hm : 1 ≤ m ∧ m ≤ 12
      · rw [if_pos hm]
        by_cases h5 : d ≥ 1
        · rw [if_pos h5]; congr 1; rw [decide_eq_decide]; omega
        · rw [if_neg h5]; congr 1; symm; rw [decide_eq_false_iff_not]; omega
      · rw [if_neg hm]
        by_cases h5 : d ≥ 1
        · rw [if_pos h5]; congr 1; rw [decide_eq_decide]; omega
        · rw [if_neg h5]; congr 1; symm; rw [decide_eq_false_iff_not]; omega

theorem year_eq (y : Int) (h : 0 ≤ y) : payoffref02_year.f y = some (yl y) := by
  unfold payoffref02_year.f yl
  rw [rleap_eq y h]; simp only [Option.bind_some]
  cases leapY y <;> rfl

theorem rlen_eq (k : Nat) (y m : Int) (hk : 2 ≤ k) (h : 0 ≤ y) (h1 : 1 ≤ m) (h2 : m ≤ 12) : payoffref02_Length.f k y m = some (len y m) := by
  obtain ⟨k, rfl⟩ : ∃ j, k = j + 2 := ⟨k - 2, by omega⟩
  rw [rlength_eq k y m h, if_pos ⟨h1, h2⟩]

theorem rday_months (y M d : Int) (hy : 0 ≤ y) (hM : M ≤ 12) : ∀ (n : Nat) (k : Nat) (x m : Int), 1 ≤ m → m + n = M → n + 2 < k → -400000 ≤ x → x + cum y M - cum y m ≤ 400000 →
    payoffref02_Day.l1 k x m y M d = some (x + cum y M - cum y m, 0) := by
  intro n
  induction n with
  | zero =>
    intro k x m h1 h2 hk _ _
    obtain ⟨k, rfl⟩ : ∃ j, k = j + 1 := ⟨k - 1, by omega⟩
    simp only [payoffref02_Day.l1]
    obtain rfl : m = M := by omega
    rw [if_neg (by omega)]; congr 2; omega
  | succ n ih =>
    intro k x m h1 h2 hk hx hx2
    obtain ⟨k, rfl⟩ : ∃ j, k = j + 1 := ⟨k - 1, by omega⟩
    simp only [payoffref02_Day.l1]
    have c := cum_succ y m h1 (by omega)
    have l := len_pos y m
    have c2 := cum_mono y (m + 1) M (by omega) (by omega) (by omega)
    rw [if_pos (by omega), rlen_eq k y m (by omega) hy h1 (by omega)]; simp only [Option.bind_some]
    rw [w64 (x + len y m) (by omega) (by omega), w64 (m + 1) (by omega) (by omega), ih k (x + len y m) (m + 1) (by omega) (by omega) (by omega) (by omega) (by omega)]
    congr 2; omega

theorem rday_years (y m d : Int) (h : ok y m d = true) : ∀ (n : Nat) (k : Nat) (x a : Int), 1900 ≤ a → a + n = y → n + 16 < k → x = d - 1 + bef a →
    payoffref02_Day.l0 k x a y m d = some (num y m d, 0) := by
  have nn := num_in _ _ _ h
  have o := (ok_iff _ _ _).1 h
  have l := len_pos y m
  have cc := cum_pos y m (by omega) (by omega)
  have bb := bef_le 1900 y (by omega)
  rw [bef_first] at bb
  intro n
  induction n with
  | zero =>
    intro k x a h1 h2 hk hx
    obtain ⟨k, rfl⟩ : ∃ j, k = j + 1 := ⟨k - 1, by omega⟩
    simp only [payoffref02_Day.l0]
    obtain rfl : a = y := by omega
    rw [if_neg (by omega), rday_months a m d (by omega) (by omega) (m - 1).toNat k x 1 (by omega) (by omega) (by omega) (by omega) (by rw [cum_first]; omega), cum_first]
    unfold num; congr 2; omega
  | succ n ih =>
    intro k x a h1 h2 hk hx
    obtain ⟨k, rfl⟩ : ∃ j, k = j + 1 := ⟨k - 1, by omega⟩
    simp only [payoffref02_Day.l0]
    have b1 := bef_succ a
    have b2 := bef_le 1900 a (by omega)
    have b3 := yl_pos a
    rw [bef_first] at b2
    rw [if_pos (by omega), year_eq a (by omega)]; simp only [Option.bind_some]
    rw [w64 (x + yl a) (by omega) (by omega), w64 (a + 1) (by omega) (by omega), ih k (x + yl a) (a + 1) (by omega) (by omega) (by omega) (by omega)]

theorem rday_in (k : Nat) (y m d : Int) (h : ok y m d = true) : payoffref02_Day.f (k + 320) y m d = some (num y m d, 0) := by
  have o := (ok_iff _ _ _).1 h
  have l := len_pos y m
  unfold payoffref02_Day.f
  rw [is_eq (k + 318), h]; simp only [Option.bind_some, if_true]
  rw [w64 (d - 1) (by omega) (by omega)]
  exact rday_years y m d h (y - 1900).toNat (k + 320) (d - 1) 1900 (by omega) (by omega) (by omega) (by rw [bef_first]; omega)

theorem rday_out (k : Nat) (y m d : Int) (h : ok y m d = false) : payoffref02_Day.f (k + 2) y m d = some (0, 21) := by
  unfold payoffref02_Day.f
  rw [is_eq, h]; simp

theorem rdate_months (y d0 day : Int) (h1 : 1900 ≤ y) (h2 : y ≤ 2199) (hd : day < bef (y + 1)) : ∀ (n : Nat) (k : Nat) (m : Int), 1 ≤ m → m + n = 13 → n + 2 ≤ k → bef y + cum y m ≤ day →
    ∃ m' d', payoffref02_Date.l1 k (day - bef y - cum y m) y m d0 = some (y, m', d', 0) ∧ ok y m' d' = true ∧ num y m' d' = day := by
  intro n
  induction n with
  | zero =>
    intro k m hm h3 _ hle
    obtain rfl : m = 13 := by omega
    have := bef_succ y
    rw [cum_last] at hle; omega
  | succ n ih =>
    intro k m hm h3 hk hle
    obtain ⟨k, rfl⟩ : ∃ j, k = j + 1 := ⟨k - 1, by omega⟩
    have c := cum_succ y m hm (by omega)
    have l := len_pos y m
    have b1 := bef_succ y
    have b2 := yl_pos y
    have b3 := cum_pos y m (by omega) (by omega)
    simp only [payoffref02_Date.l1]
    rw [rlen_eq k y m (by omega) (by omega) hm (by omega)]; simp only [Option.bind_some]
    by_cases g : day - bef y - cum y m ≥ len y m
    · rw [if_pos g]
      obtain ⟨m', d', e, q⟩ := ih k (m + 1) (by omega) (by omega) (by omega) (by omega)
      refine ⟨m', d', ?_, q⟩
      rw [w64 _ (by omega) (by omega), w64 _ (by omega) (by omega), ← e]
      congr 1; omega
    · rw [if_neg g]
      have q := num_of day y m h1 h2 hm (by omega) hle (by omega)
      refine ⟨m, _, ?_, q⟩
      rw [w64 _ (by omega) (by omega)]

theorem rdate_years (day : Int) (h0 : 0 ≤ day) (h9 : day ≤ 109572) : ∀ (n : Nat) (k : Nat) (y : Int), 1900 ≤ y → y + n = 2200 → n + 15 ≤ k → bef y ≤ day →
    ∃ y' m' d', payoffref02_Date.l0 k (day - bef y) y 1 1 = some (y', m', d', 0) ∧ ok y' m' d' = true ∧ num y' m' d' = day := by
  intro n
  induction n with
  | zero =>
    intro k y hy h3 hk hle
    obtain rfl : y = 2200 := by omega
    rw [bef_last] at hle; omega
  | succ n ih =>
    intro k y hy h3 hk hle
    obtain ⟨k, rfl⟩ : ∃ j, k = j + 1 := ⟨k - 1, by omega⟩
    simp only [payoffref02_Date.l0]
    have b1 := bef_succ y
    have b2 := yl_pos y
    have b := bef_le 1900 y (by omega)
    rw [bef_first] at b
    rw [year_eq y (by omega)]; simp only [Option.bind_some]
    by_cases g : day - bef y ≥ yl y
    · rw [if_pos g]
      obtain ⟨y', m', d', e, q⟩ := ih k (y + 1) (by omega) (by omega) (by omega) (by omega)
      refine ⟨y', m', d', ?_, q⟩
      rw [w64 _ (by omega) (by omega), w64 _ (by omega) (by omega), ← e]
      congr 1; omega
    · rw [if_neg g]
      obtain ⟨m', d', q, r⟩ := rdate_months y 1 day (by omega) (by omega) (by omega) 12 k 1 (by omega) (by omega) (by omega) (by rw [cum_first]; omega)
      rw [cum_first] at q
      exact ⟨y, m', d', by rw [← q]; congr 1; omega, r⟩

theorem rdate_in (k : Nat) (day : Int) (h0 : 0 ≤ day) (h9 : day ≤ 109572) :
    ∃ y m d, payoffref02_Date.f (k + 320) day = some (y, m, d, 0) ∧ ok y m d = true ∧ num y m d = day := by
  unfold payoffref02_Date.f
  rw [if_neg (by omega), decide_eq_false (by omega)]
  simp only [payoffref02_Date.j0, Bool.false_eq_true, if_false]
  have := rdate_years day h0 h9 300 (k + 319) 1900 (by omega) (by omega) (by omega) (by rw [bef_first]; omega)
  rw [bef_first] at this
  rw [Int.sub_zero] at this
  exact this

theorem rdate_out (k : Nat) (day : Int) (h : ¬ (0 ≤ day ∧ day ≤ 109572)) : payoffref02_Date.f (k + 1) day = some (0, 0, 0, 2) := by
  unfold payoffref02_Date.f
  by_cases g : day < 0
  · rw [if_pos g]; simp [payoffref02_Date.j0]
  · rw [if_neg g, decide_eq_true (by omega)]; simp [payoffref02_Date.j0]

end Go.Proofs.YtdebllinaffceaaDoor.Plain

namespace Go.Proofs.YtdebllinaffceaaDoor.Plain
open Go.RowKit Go.Proofs.YtdebllinaffceaaDoor.M Go.Proofs.YtdebllinaffceaaDoorW.PrintWords Go.Proofs.YtdebllinaffceaaDoorW.PrintLast

theorem rdate_eq (k : Nat) (day : Int) : payoffref02_Date.f (k + 320) day = some (dateV day) := by
  by_cases h : 0 ≤ day ∧ day ≤ 109572
  · obtain ⟨y, m, d, e, o, q⟩ := rdate_in k day h.1 h.2
    rw [e, ← q, dateV_num y m d o]
  · rw [rdate_out (k + 319) _ h, dateV_out _ h]

theorem rday_eq (k : Nat) (y m d : Int) : payoffref02_Day.f (k + 320) y m d = some (dayV y m d) := by
  unfold dayV
  cases h : ok y m d with
  | true => rw [rday_in k _ _ _ h]; rfl
  | false => rw [rday_out (k + 318) _ _ _ h]; rfl

end Go.Proofs.YtdebllinaffceaaDoor.Plain
