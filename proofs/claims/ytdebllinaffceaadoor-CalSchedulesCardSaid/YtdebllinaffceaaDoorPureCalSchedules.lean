/- For any two dates, any tenor, any convention and any list of holidays: the given function Schedule tells what the document's tells, again and again; answers kept as they came share no memory, answers written over and appended to stay as they were left, and the list of holidays is as it was, also behind its end, and counts as it is at the call. The list reads as before. The package-level table cal.months is tied to the program's text. The list takes at most the memory that the row's sized condition names. No other condition. -/
import Derived.Test.YtdebllinaffceaaDoorVWords
import Derived.Test.YtdebllinaffceaaDoorPlainS
import Derived.Test.YtdebllinaffceaaDoorMPayofflaw02CalSchedules
namespace Go.Proofs.YtdebllinaffceaaDoor.Plain
open Go.RowKit Go.Proofs.YtdebllinaffceaaDoor.M Go.Proofs.YtdebllinaffceaaDoorW.PrintWords Go.Proofs.YtdebllinaffceaaDoorW.PrintLast

section
variable (a0 a1 a2 a3 a4 a5 a6 a7 a8 : Int) (l : List S23)

theorem late_eq (k : Nat) (hl : l.length ≤ 5864062014634) (hk : 460100 + 2 * l.length ≤ k) : payofflaw02_lateSchedules.f k a0 a1 a2 a3 a4 a5 a6 a7 a8 l (schedV a0 a1 a2 a3 a4 a5 a6 a7 a8 l).1 = some true := by
  obtain ⟨s1, s2⟩ := sched_both a0 a1 a2 a3 a4 a5 a6 a7 a8 l k (by omega) (by omega)
  obtain ⟨r1, r2⟩ := sched_both a0 a1 a2 a3 a4 a5 a6 a7 0 [] k (by simp) (by simp; omega)
  have h1 := schedV_len a0 a1 a2 a3 a4 a5 a6 a7 a8 l
  have h2 := schedV_len a0 a1 a2 a3 a4 a5 a6 a7 0 []
  unfold payofflaw02_lateSchedules.f
  rw [r2, Option.bind_some, ownDates_eq l (by omega) k (by omega), Option.bind_some, s1, Option.bind_some, r1, Option.bind_some, Option.bind_some, s1, Option.bind_some, same_eq _ (by omega) k (by omega), Option.bind_some, if_pos rfl, same_eq _ (by omega) k (by omega), Option.bind_some, if_pos rfl, Option.bind_some, if_pos rfl, if_pos (by omega), if_pos (by omega), if_pos (by omega)]

theorem turned_end (k : Nat) (z : List S23) (hz : z.length ≤ 5864062014634) (hk : 460100 + 2 * z.length ≤ k) : ((payoffref02_Schedule.f k a0 a1 a2 a3 a4 a5 a6 a7 a8 z).bind fun bt115 => ((cal_Schedule.f k a0 a1 a2 a3 a4 a5 a6 a7 a8 z).bind fun bt119 => (if bt119.2 = bt115.2 then ((payofflaw02_sameInts.f k bt119.1 bt115.1).bind fun t123 => (some t123)) else (some false)))) = some true := by
  obtain ⟨s1, s2⟩ := sched_both a0 a1 a2 a3 a4 a5 a6 a7 a8 z k (by omega) (by omega)
  have h1 := schedV_len a0 a1 a2 a3 a4 a5 a6 a7 a8 z
  rw [s2, Option.bind_some, s1, Option.bind_some, if_pos rfl, same_eq _ (by omega) k (by omega)]
  rfl

theorem turned_loop (hl : l.length ≤ 5864062014634) : ∀ (n K j : Nat) (z : List S23), z.length = l.length → j + n = z.length → 460100 + 2 * l.length ≤ K → payofflaw02_turnedHolidays.l0 (K + n + 1) z (j : Int) a0 a1 a2 a3 a4 a5 a6 a7 a8 l = some true := by
  intro n
  induction n with
  | zero =>
    intro K j z hz hj hK
    simp only [payofflaw02_turnedHolidays.l0]
    rw [if_neg (by omega)]
    by_cases h0 : (z.length : Int) > 0
    · rw [if_pos h0, if_pos h0, Option.bind_some, if_pos (by simp; omega)]
      exact turned_end a0 a1 a2 a3 a4 a5 a6 a7 a8 _ _ (by simp; omega) (by simp; omega)
    · rw [if_neg h0, if_pos (by simp; omega)]
      exact turned_end a0 a1 a2 a3 a4 a5 a6 a7 a8 _ _ (by simp; omega) (by simp; omega)
  | succ n ih =>
    intro K j z hz hj hK
    rw [show K + (n + 1) + 1 = (K + n + 1) + 1 by omega]
    conv => lhs; rw [payofflaw02_turnedHolidays.l0]
    rw [if_pos (by omega), wq64 ((z.length : Int) - 1) (by omega) (by omega), wq64 ((z.length : Int) - 1 - (j : Int)) (by omega) (by omega), if_pos (by omega), if_pos (by omega), if_pos (by omega), wq64 ((j : Int) + 1) (by omega) (by omega), show ((j : Int) + 1) = ((j + 1 : Nat) : Int) by omega]
    exact ih K (j + 1) _ (by simpa using hz) (by simp; omega) hK

theorem turned_eq (k : Nat) (hl : l.length ≤ 5864062014634) (hk : 460200 + 4 * l.length ≤ k) : payofflaw02_turnedHolidays.f k a0 a1 a2 a3 a4 a5 a6 a7 a8 l = some true := by
  obtain ⟨s1, s2⟩ := sched_both a0 a1 a2 a3 a4 a5 a6 a7 a8 l k (by omega) (by omega)
  unfold payofflaw02_turnedHolidays.f
  rw [ownDates_eq l (by omega) k (by omega), Option.bind_some, s1, Option.bind_some]
  obtain ⟨K, rfl⟩ : ∃ K, k = K + l.length + 1 := ⟨k - l.length - 1, by omega⟩
  exact turned_loop a0 a1 a2 a3 a4 a5 a6 a7 a8 l hl l.length K 0 l rfl (by omega) (by omega)

theorem intact_loop (hl : l.length ≤ 5864062014634) : ∀ (n K j : Nat), j + n = l.length → payofflaw02_intactDates.l0 (K + n + 1) l l (j : Int) = some true := by
  intro n
  induction n with
  | zero =>
    intro K j hj
    simp only [payofflaw02_intactDates.l0]
    rw [if_neg (by omega)]
  | succ n ih =>
    intro K j hj
    rw [show K + (n + 1) + 1 = (K + n + 1) + 1 by omega]
    conv => lhs; rw [payofflaw02_intactDates.l0]
    rw [if_pos (by omega), if_pos (by omega), if_pos (by omega), if_neg (by simp), wq64 ((j : Int) + 1) (by omega) (by omega), show ((j : Int) + 1) = ((j + 1 : Nat) : Int) by omega]
    exact ih K (j + 1) (by omega)

theorem s_l3 (hl : l.length ≤ 5864062014634) (m : Nat) (hm : m ≤ 1000000) : ∀ (n K j : Nat), j + n = m → l.length + 1 < K → payofflaw02_CalSchedules.l3 (K + n + 1) l (List.replicate m (-5)) (j : Int) a0 a1 a2 a3 a4 a5 a6 a7 a8 l = some true := by
  intro n
  induction n with
  | zero =>
    intro K j hj hK
    simp only [payofflaw02_CalSchedules.l3]
    rw [if_neg (by simp; omega)]
    unfold payofflaw02_intactDates.f
    obtain ⟨Q, rfl⟩ : ∃ Q, K = Q + l.length + 1 := ⟨K - l.length - 1, by omega⟩
    have := intact_loop l hl l.length Q 0 (by omega)
    rw [show ((0 : Nat) : Int) = 0 from rfl] at this
    rw [show Q + l.length + 1 + 0 = Q + l.length + 1 from rfl, this]
    rfl
  | succ n ih =>
    intro K j hj hK
    rw [show K + (n + 1) + 1 = (K + n + 1) + 1 by omega]
    conv => lhs; rw [payofflaw02_CalSchedules.l3]
    have e : rd (List.replicate m (-5 : Int)) (j : Int) = -5 := by unfold rd; rw [Int.toNat_natCast, List.getD_eq_getElem?_getD, List.getElem?_replicate, if_pos (by omega)]; rfl
    rw [if_pos (by simp; omega), if_pos (by omega), e, if_pos rfl, wq64 ((j : Int) + 1) (by omega) (by omega), show ((j : Int) + 1) = ((j + 1 : Nat) : Int) by omega]
    exact ih K (j + 1) (by omega) hK

theorem s_l2 (hl : l.length ≤ 5864062014634) (m : Nat) (hm : m ≤ 1000000) : ∀ (n K j : Nat) (z : List Int), j + n = z.length → z.length ≤ 1000000 → l.length + m + 2 < K → payofflaw02_CalSchedules.l2 (K + n + 1) l (List.replicate m (-5)) z (j : Int) a0 a1 a2 a3 a4 a5 a6 a7 a8 l = some true := by
  intro n
  induction n with
  | zero =>
    intro K j z hj hz hK
    simp only [payofflaw02_CalSchedules.l2]
    rw [if_neg (by omega)]
    obtain ⟨Q, rfl⟩ : ∃ Q, K = Q + m + 1 := ⟨K - m - 1, by omega⟩
    exact s_l3 a0 a1 a2 a3 a4 a5 a6 a7 a8 l hl m hm m Q 0 (by omega) (by omega)
  | succ n ih =>
    intro K j z hj hz hK
    rw [show K + (n + 1) + 1 = (K + n + 1) + 1 by omega]
    conv => lhs; rw [payofflaw02_CalSchedules.l2]
    rw [if_pos (by omega), if_pos (by omega), wq64 ((j : Int) + 1) (by omega) (by omega), show ((j : Int) + 1) = ((j + 1 : Nat) : Int) by omega]
    exact ih K (j + 1) _ (by simp; omega) (by simp; omega) hK

theorem s_l1 (hl : l.length ≤ 5864062014634) (b : Nat) (hb : b ≤ 200000) : ∀ (n K j : Nat), j + n = 40 → 1000000 + 2 * l.length < K → payofflaw02_CalSchedules.l1 (K + n + 1) l (schedV a0 a1 a2 a3 a4 a5 a6 a7 a8 l).1 (schedV a0 a1 a2 a3 a4 a5 a6 a7 a8 l).2 (List.replicate (b + j) (-5)) (j : Int) a0 a1 a2 a3 a4 a5 a6 a7 a8 l = some true := by
  intro n
  induction n with
  | zero =>
    intro K j hj hK
    obtain ⟨s1, s2⟩ := sched_both a0 a1 a2 a3 a4 a5 a6 a7 a8 l K (by omega) (by omega)
    have h1 := schedV_len a0 a1 a2 a3 a4 a5 a6 a7 a8 l
    simp only [payofflaw02_CalSchedules.l1]
    rw [if_neg (by omega)]
    rw [s1, Option.bind_some, if_pos rfl, same_eq _ (by omega) K (by omega), Option.bind_some]
    obtain ⟨Q, hQ⟩ : ∃ Q, K = (Q + (schedV a0 a1 a2 a3 a4 a5 a6 a7 a8 l).1.length + 1) + 1 := ⟨K - (schedV a0 a1 a2 a3 a4 a5 a6 a7 a8 l).1.length - 2, by omega⟩
    rw [hQ, payofflaw02_CalSchedules.j4]
    rw [if_neg (by simp)]
    exact s_l2 a0 a1 a2 a3 a4 a5 a6 a7 a8 l hl (b + j) (by omega) _ Q 0 _ (by omega) (by omega) (by omega)
  | succ n ih =>
    intro K j hj hK
    rw [show K + (n + 1) + 1 = (K + n + 1) + 1 by omega]
    conv => lhs; rw [payofflaw02_CalSchedules.l1]
    rw [if_pos (by omega), if_pos (by simp; omega), wq64 ((j : Int) + 1) (by omega) (by omega), show ((j : Int) + 1) = ((j + 1 : Nat) : Int) by omega, ← List.replicate_succ', show b + j + 1 = b + (j + 1) by omega]
    exact ih K (j + 1) (by omega) hK

theorem s_l0 (hl : l.length ≤ 5864062014634) : ∀ (n K j : Nat) (z : List Int), j + n = z.length → z.length ≤ 200000 → z.take j = List.replicate j (-5) → 1000100 + 2 * l.length < K → payofflaw02_CalSchedules.l0 (K + n + 1) l (schedV a0 a1 a2 a3 a4 a5 a6 a7 a8 l).1 (schedV a0 a1 a2 a3 a4 a5 a6 a7 a8 l).2 z (j : Int) a0 a1 a2 a3 a4 a5 a6 a7 a8 l = some true := by
  intro n
  induction n with
  | zero =>
    intro K j z hj hz ht hK
    simp only [payofflaw02_CalSchedules.l0]
    rw [if_neg (by omega)]
    rw [List.take_of_length_le (by omega)] at ht
    subst ht
    obtain ⟨Q, rfl⟩ : ∃ Q, K = Q + 40 + 1 := ⟨K - 41, by omega⟩
    exact s_l1 a0 a1 a2 a3 a4 a5 a6 a7 a8 l hl j (by simpa using hz) 40 Q 0 (by omega) (by omega)
  | succ n ih =>
    intro K j z hj hz ht hK
    rw [show K + (n + 1) + 1 = (K + n + 1) + 1 by omega]
    conv => lhs; rw [payofflaw02_CalSchedules.l0]
    rw [if_pos (by omega), if_pos (by omega), wq64 ((j : Int) + 1) (by omega) (by omega), show ((j : Int) + 1) = ((j + 1 : Nat) : Int) by omega]
    refine ih K (j + 1) _ (by simp; omega) (by simp; omega) ?_ hK
    rw [Int.toNat_natCast, List.take_add_one, List.take_set_of_le (by omega), ht, List.getElem?_set_self (by omega), List.replicate_succ']
    rfl
end

end Go.Proofs.YtdebllinaffceaaDoor.Plain
namespace Go.Proofs.YtdebllinaffceaaDoor.Pure
open Go.RowKit Go.Proofs.YtdebllinaffceaaDoor.M Go.Proofs.YtdebllinaffceaaDoor.Plain Go.Proofs.YtdebllinaffceaaDoorW.PrintWords Go.Proofs.YtdebllinaffceaaDoorW.PrintLast
theorem CalSchedules (a0_0 a0_1 a0_2 a0_3 a0_4 a0_5 a0_6 a0_7 a0_8 : Int) (l0_9 : List S23) (hl : l0_9.length ≤ 5864062014634) : ∃ k, payofflaw02_CalSchedules.f k a0_0 a0_1 a0_2 a0_3 a0_4 a0_5 a0_6 a0_7 a0_8 l0_9 = some true := by
  obtain ⟨k, hk⟩ : ∃ k, k = 2000000 + 4 * l0_9.length := ⟨_, rfl⟩
  refine ⟨k, ?_⟩
  have h1 := schedV_len a0_0 a0_1 a0_2 a0_3 a0_4 a0_5 a0_6 a0_7 a0_8 l0_9
  unfold payofflaw02_CalSchedules.f
  rw [ownDates_eq l0_9 (by omega) k (by omega), Option.bind_some, (sched_both a0_0 a0_1 a0_2 a0_3 a0_4 a0_5 a0_6 a0_7 a0_8 l0_9 k (by omega) (by omega)).2, Option.bind_some, late_eq _ _ _ _ _ _ _ _ _ _ k hl (by omega), Option.bind_some, turned_eq _ _ _ _ _ _ _ _ _ _ k hl (by omega), Option.bind_some, if_pos rfl]
  obtain ⟨K, hK⟩ : ∃ K, k = K + 1 := ⟨k - 1, by omega⟩
  rw [hK, payofflaw02_CalSchedules.j0, if_neg (by simp), (sched_both a0_0 a0_1 a0_2 a0_3 a0_4 a0_5 a0_6 a0_7 a0_8 l0_9 K (by omega) (by omega)).1, Option.bind_some, if_pos rfl, same_eq _ (by omega) K (by omega), Option.bind_some]
  obtain ⟨Q, hQ⟩ : ∃ Q, K = (Q + (schedV a0_0 a0_1 a0_2 a0_3 a0_4 a0_5 a0_6 a0_7 a0_8 l0_9).1.length + 1) + 1 := ⟨K - (schedV a0_0 a0_1 a0_2 a0_3 a0_4 a0_5 a0_6 a0_7 a0_8 l0_9).1.length - 2, by omega⟩
  rw [hQ, payofflaw02_CalSchedules.j1, if_neg (by simp)]
  exact s_l0 a0_0 a0_1 a0_2 a0_3 a0_4 a0_5 a0_6 a0_7 a0_8 l0_9 hl _ Q 0 _ (by omega) (by omega) (by simp) (by omega)
end Go.Proofs.YtdebllinaffceaaDoor.Pure
