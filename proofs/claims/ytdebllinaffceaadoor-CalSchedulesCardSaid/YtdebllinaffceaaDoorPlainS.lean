/- The schedule: the given function's and the document's are one. -/
import Derived.Test.YtdebllinaffceaaDoorVWords
import Derived.Test.YtdebllinaffceaaDoorPlainO
import Derived.Test.YtdebllinaffceaaDoorPlainI
import Derived.Test.YtdebllinaffceaaDoorPlainF
import Derived.Test.YtdebllinaffceaaDoorMPayofflaw02OwnDates
import Derived.Test.YtdebllinaffceaaDoorMPayoffref02Schedule
namespace Go.Proofs.YtdebllinaffceaaDoor.Plain
open Go.RowKit Go.Proofs.YtdebllinaffceaaDoor.M Go.Proofs.YtdebllinaffceaaDoorW.PrintWords Go.Proofs.YtdebllinaffceaaDoorW.PrintLast

theorem ownDates_loop (l : List S23) (hl : l.length ≤ 4611686018427387904) : ∀ (n k i : Nat) (b : List S23), i + n = l.length → n < k → b.length = l.length + 2 → b.take i = l.take i →
    payofflaw02_ownDates.l0 k l b (i : Int) = some l := by
  intro n
  induction n with
  | zero =>
    intro k i b hi hk hb ht
    obtain ⟨k, rfl⟩ : ∃ m, k = m + 1 := ⟨k - 1, by omega⟩
    obtain rfl : i = l.length := by omega
    simp only [payofflaw02_ownDates.l0]
    rw [if_neg (by omega), if_pos (by omega), if_pos (by omega), wq64 _ (by omega) (by omega), if_pos (by omega), if_pos (by omega), if_pos (by omega)]
    congr 1
    rw [Int.toNat_natCast, List.take_set_of_le (by omega), List.take_set_of_le (by omega), ht, List.take_length]
  | succ n ih =>
    intro k i b hi hk hb ht
    obtain ⟨k, rfl⟩ : ∃ m, k = m + 1 := ⟨k - 1, by omega⟩
    simp only [payofflaw02_ownDates.l0]
    rw [if_pos (by omega), if_pos (by omega), if_pos (by omega), wq64 _ (by omega) (by omega), show ((i : Int) + 1) = ((i + 1 : Nat) : Int) by omega]
    refine ih k (i + 1) _ (by omega) (by omega) (by rw [List.length_set]; exact hb) ?_
    rw [Int.toNat_natCast, List.take_add_one, List.take_add_one, List.take_set_of_le (Nat.le_refl _), ht]
    congr 1
    rw [List.getElem?_set_self (by omega), List.getElem?_eq_getElem (by omega)]
    unfold rd_T23
    rw [Int.toNat_natCast, List.getD_eq_getElem?_getD, List.getElem?_eq_getElem (by omega)]
    rfl
theorem ownDates_eq (l : List S23) (hl : l.length ≤ 11728124029600) (k : Nat) (hk : l.length < k) : payofflaw02_ownDates.f k l = some l := by
  unfold payofflaw02_ownDates.f
  rw [wq64 _ (by omega) (by omega), if_pos (by omega), if_pos (by omega)]
  exact ownDates_loop l (by omega) l.length k 0 _ (by omega) hk (by rw [List.length_replicate]; omega) (by simp)

section
variable (y m d y2 m2 d2 t u c : Int) (l : List S23)
theorem sched_bad (k : Nat) (h : tenor t u = false ∨ c < 0 ∨ 3 < c) : cal_Schedule.f (k + 1) y m d y2 m2 d2 t u c l = some ([], 1) := by
  unfold cal_Schedule.f
  rw [tenor_eq]
  simp only [Option.bind_some]
  have J : cal_Schedule.j0 (k + 1) c l true y m d y2 m2 d2 t u = some ([], 1) := by simp only [cal_Schedule.j0, if_true]
  cases ht : tenor t u with
  | false => simp only [Bool.false_eq_true, if_false]; exact J
  | true =>
    simp only [if_true]
    by_cases c1 : c < 0
    · rw [if_pos c1]; exact J
    · rw [if_neg c1, decide_eq_true (by rw [ht] at h; simp at h; omega)]; exact J
theorem sched_main (K : Nat) (hK : 400 < K) (hl : l.length ≤ 17592186044000) (ht : tenor t u = true) (hc : ¬ (c < 0 ∨ 3 < c)) :
    cal_Schedule.f (K + l.length + 3) y m d y2 m2 d2 t u c l = if ok y m d = true ∧ ok y2 m2 d2 = true ∧ oks l = true then (if num y m d > num y2 m2 d2 then some (([] : List Int), 2) else cal_Schedule.l1 K c (num y2 m2 d2) (nums l) [] 0 y m d t u) else some (([] : List Int), 21) := by
  unfold cal_Schedule.f
  rw [tenor_eq, ht]
  simp only [Option.bind_some, if_true]
  rw [if_neg (by omega), decide_eq_false (by omega)]
  simp only [cal_Schedule.j0, Bool.false_eq_true, if_false]
  rw [show K + l.length + 2 = (K + l.length - 11) + 13 by omega, day_eq, day_eq, show (K + l.length - 11) + 13 = K + l.length + 2 by omega]
  simp only [Option.bind_some]
  have H := hol_loop c (num y m d) (num y2 m2 d2) l y m d t u hl l.length K 0 (by omega) (by omega)
  rw [List.take_zero, List.drop_zero] at H
  unfold dayV
  cases h1 : ok y m d with
  | false => simp [cal_Schedule.j1]
  | true =>
    simp only [if_true]
    cases h2 : ok y2 m2 d2 with
    | false => simp [cal_Schedule.j1]
    | true =>
      simp only [if_true, cal_Schedule.j1, bne_self_eq_false, Bool.false_eq_true, if_false, true_and]
      exact H
end

/-- The days from the i-th on, as long as they come. -/
def runV (D : Int → Int × Int × Int × Int) (c e : Int) (cl : List Int) : Nat → Int → List Int → List Int × Int
  | 0, _, out => (out, 0)
  | n + 1, i, out => if (D i).2.2.2 = 0 ∧ numD (D i) ≤ e then (if (adjF cl c (numD (D i))).2 = 0 then runV D c e cl n (i + 1) (onto out (adjF cl c (numD (D i))).1) else ([], 2)) else (out, 0)

theorem onto_len (out : List Int) (r : Int) : (onto out r).length ≤ out.length + 1 := by
  unfold onto
  by_cases h : out.length = 0 ∨ r > rd out ((out.length : Int) - 1)
  · rw [if_pos h]; simp
  · rw [if_neg h]; omega
theorem runV_len (D : Int → Int × Int × Int × Int) (c e : Int) (cl : List Int) : ∀ (n : Nat) (i : Int) (out : List Int), (runV D c e cl n i out).1.length ≤ out.length + n
  | 0, _, out => by simp [runV]
  | n + 1, i, out => by
    unfold runV
    by_cases h : (D i).2.2.2 = 0 ∧ numD (D i) ≤ e
    · rw [if_pos h]
      by_cases h2 : (adjF cl c (numD (D i))).2 = 0
      · rw [if_pos h2]
        have := runV_len D c e cl n (i + 1) (onto out (adjF cl c (numD (D i))).1)
        have := onto_len out (adjF cl c (numD (D i))).1
        omega
      · rw [if_neg h2]; simp
    · rw [if_neg h]; show out.length ≤ out.length + (n + 1); omega
/-- An adjusted day is refused by one code alone. -/
theorem adjF_code (cl : List Int) (hl : cl.length ≤ 4611686018427387904) (c d : Int) (hc : ¬ (c < 0 ∨ 3 < c)) (h : (adjF cl c d).2 ≠ 0) : (adjF cl c d).2 = 2 := by
  obtain ⟨up, hu⟩ := up_ex cl hl d
  obtain ⟨dn, hd⟩ := dn_ex cl hl d
  rw [adjF_val cl hl d c up dn hu hd] at h ⊢
  revert h
  unfold adjV
  repeat' split
  all_goals (intro h; first | rfl | (exact absurd rfl h) | (simp_all; done) | omega)

section
variable (c e : Int) (cl : List Int) (y m d t u : Int)
theorem cal_run (hl : cl.length ≤ 17592186044000) (hc : ¬ (c < 0 ∨ 3 < c)) (hD : Dates (addV y m d t u)) (K : Nat) (hK : 120000 + cl.length < K) : ∀ (n : Nat) (i : Int) (out : List Int), 0 ≤ i → i + n = 109574 → out.length ≤ i → e ≤ 109572 →
    cal_Schedule.l1 (K + 2 * n + 2) c e cl out i y m d t u = some (runV (addV y m d t u) c e cl n i out) := by
  intro n
  induction n with
  | zero =>
    intro i out h0 hi ho he
    rw [show K + 2 * 0 + 2 = K + 2 by omega, l1_end K (by omega) c e cl out i y m d t u hD h0 ?_]
    · rfl
    · rintro ⟨h1, h2⟩
      obtain ⟨N, rfl⟩ : ∃ N : Nat, i = N := ⟨i.toNat, by omega⟩
      have := hD.le N h1
      omega
  | succ n ih =>
    intro i out h0 hi ho he
    unfold runV
    by_cases h : (addV y m d t u i).2.2.2 = 0 ∧ numD (addV y m d t u i) ≤ e
    · rw [if_pos h, show K + 2 * (n + 1) + 2 = (K + 2 * n + 2) + 2 by omega, l1_go (K + 2 * n + 2) c e cl out hl (by omega) i y m d t u hD h0 (by omega) (by omega) h.1 h.2]
      by_cases h2 : (adjF cl c (numD (addV y m d t u i))).2 = 0
      · rw [if_pos h2, if_pos h2]
        exact ih (i + 1) _ (by omega) (by omega) (by have := onto_len out (adjF cl c (numD (addV y m d t u i))).1; omega) he
      · rw [if_neg h2, if_neg h2, adjF_code cl (by omega) c _ hc h2]
    · rw [if_neg h, l1_end (K + 2 * (n + 1)) (by omega) c e cl out i y m d t u hD h0 h]

theorem rl1_end (K : Nat) (hK : 400 < K) (out : List Int) (i : Int) (hD : Dates (addV y m d t u)) (hi : 0 ≤ i) (h : ¬ ((addV y m d t u i).2.2.2 = 0 ∧ numD (addV y m d t u i) ≤ e)) :
    payoffref02_Schedule.l1 (K + 2) c e cl out i y m d t u = some (out, 0) := by
  simp only [payoffref02_Schedule.l1]
  rw [show K + 1 = (K - 329) + 330 by omega, radd_eq]
  simp only [Option.bind_some]
  rw [show (K - 329) + 330 = (K - 319) + 320 by omega, rday_eq]
  simp only [Option.bind_some]
  have J : payoffref02_Schedule.j4 (K - 319 + 320) c e cl out i (dayV (addV y m d t u i).1 (addV y m d t u i).2.1 (addV y m d t u i).2.2.1).1 true y m d t u = some (out, 0) := by
    rw [show K - 319 + 320 = K + 1 by omega]; simp only [payoffref02_Schedule.j4, if_true]
  by_cases c1 : (addV y m d t u i).2.2.2 = 0
  · rw [if_pos c1]
    have o := hD.ok i hi c1
    have e1 : dayV (addV y m d t u i).1 (addV y m d t u i).2.1 (addV y m d t u i).2.2.1 = (numD (addV y m d t u i), 0) := by unfold dayV; rw [o]; rfl
    rw [e1] at J ⊢
    rw [decide_eq_true (show numD (addV y m d t u i) > e by omega)]
    exact J
  · rw [if_neg c1]; exact J

theorem rl1_go (K : Nat) (hl : cl.length ≤ 17592186044000) (hK : 240000 + cl.length < K) (out : List Int) (i : Int) (hD : Dates (addV y m d t u)) (hi : 0 ≤ i) (hi9 : i ≤ 200000) (ho : out.length ≤ 200000)
    (h : (addV y m d t u i).2.2.2 = 0) (h2 : numD (addV y m d t u i) ≤ e) (hlast : out.length = 0 ∨ rd out ((out.length : Int) - 1) ≤ (adjF cl c (numD (addV y m d t u i))).1 ∨ (adjF cl c (numD (addV y m d t u i))).2 ≠ 0) :
    payoffref02_Schedule.l1 (K + 2) c e cl out i y m d t u = if (adjF cl c (numD (addV y m d t u i))).2 = 0 then payoffref02_Schedule.l1 K c e cl (onto out (adjF cl c (numD (addV y m d t u i))).1) (i + 1) y m d t u else some (([] : List Int), 2) := by
  conv => lhs; rw [payoffref02_Schedule.l1]
  rw [show K + 1 = (K - 329) + 330 by omega, radd_eq]
  simp only [Option.bind_some]
  rw [show (K - 329) + 330 = (K - 319) + 320 by omega, rday_eq]
  simp only [Option.bind_some]
  have o := hD.ok i hi h
  have e1 : dayV (addV y m d t u i).1 (addV y m d t u i).2.1 (addV y m d t u i).2.2.1 = (numD (addV y m d t u i), 0) := by unfold dayV; rw [o]; rfl
  rw [if_pos h, e1, decide_eq_false (show ¬ numD (addV y m d t u i) > e by omega), show K - 319 + 320 = K + 1 by omega]
  simp only [payoffref02_Schedule.j4, Bool.false_eq_true, if_false]
  obtain ⟨up, hu⟩ := up_ex cl (by omega) (numD (addV y m d t u i))
  obtain ⟨dn, hd⟩ := dn_ex cl (by omega) (numD (addV y m d t u i))
  rw [radj_eq cl (by omega) K _ c up dn hu hd (by omega), ← adjF_val cl (by omega) _ c up dn hu hd]
  simp only [Option.bind_some]
  by_cases c2 : (adjF cl c (numD (addV y m d t u i))).2 = 0
  · rw [if_pos c2, if_pos c2]
    unfold onto
    by_cases c3 : out.length = 0
    · rw [if_pos (by omega), if_pos (by omega), if_pos (.inl c3), wq64 _ (by omega) (by omega)]
    · rw [if_neg (by omega), wq64 ((out.length : Int) - 1) (by omega) (by omega), if_pos (by omega), if_pos (by omega)]
      by_cases c4 : (adjF cl c (numD (addV y m d t u i))).1 > rd out ((out.length : Int) - 1)
      · rw [if_neg (by omega), if_pos (by omega), if_pos (.inr c4), wq64 _ (by omega) (by omega)]
      · rw [if_pos (by rcases hlast with q | q | q <;> first | omega | exact absurd c2 q), if_neg (by simp only [c3, c4, or_self, not_false_eq_true]), wq64 _ (by omega) (by omega)]
  · rw [if_neg c2, if_neg c2]

/-- The last day told is the adjusted day of the date before. -/
def Inv (i : Int) (out : List Int) : Prop := out.length = 0 ∨ (0 < i ∧ (addV y m d t u (i - 1)).2.2.2 = 0 ∧ (adjF cl c (numD (addV y m d t u (i - 1)))).2 = 0 ∧ rd out ((out.length : Int) - 1) = (adjF cl c (numD (addV y m d t u (i - 1)))).1)
theorem Inv.last (hl : cl.length ≤ 17592186044000) (hc : ¬ (c < 0 ∨ 3 < c)) (hD : Dates (addV y m d t u)) {i : Int} {out : List Int} (hI : Inv c cl y m d t u i out) (h : (addV y m d t u i).2.2.2 = 0) : out.length = 0 ∨ rd out ((out.length : Int) - 1) ≤ (adjF cl c (numD (addV y m d t u i))).1 ∨ (adjF cl c (numD (addV y m d t u i))).2 ≠ 0 := by
  rcases hI with h0 | ⟨hi, h1, h2, h3⟩
  · exact .inl h0
  · by_cases hz : (adjF cl c (numD (addV y m d t u i))).2 = 0
    · right; left
      rw [h3]
      have hu := hD.up (i - 1) (by omega) (by rw [show i - 1 + 1 = i by omega]; exact h)
      rw [show i - 1 + 1 = i by omega] at hu
      have r1 := hD.range (i - 1) (by omega) h1
      have r2 := hD.range i (by omega) h
      exact adj_mono cl (by omega) c _ _ hc r1.1 (by omega) r2.2 h2 hz
    · exact .inr (.inr hz)
theorem Inv.next (hl : cl.length ≤ 17592186044000) (hc : ¬ (c < 0 ∨ 3 < c)) (hD : Dates (addV y m d t u)) {i : Int} {out : List Int} (h0 : 0 ≤ i) (hI : Inv c cl y m d t u i out) (h : (addV y m d t u i).2.2.2 = 0) (hz : (adjF cl c (numD (addV y m d t u i))).2 = 0) : Inv c cl y m d t u (i + 1) (onto out (adjF cl c (numD (addV y m d t u i))).1) := by
  right
  rw [show i + 1 - 1 = i by omega]
  refine ⟨by omega, h, hz, ?_⟩
  have hq := hI.last c cl y m d t u hl hc hD h
  unfold onto
  by_cases c3 : out.length = 0 ∨ (adjF cl c (numD (addV y m d t u i))).1 > rd out ((out.length : Int) - 1)
  · rw [if_pos c3]
    simp only [List.length_append, List.length_cons, List.length_nil]
    rw [show ((out.length + (0 + 1) : Nat) : Int) - 1 = (out.length : Int) by omega]
    exact rd_last _ _
  · rw [if_neg c3]
    rcases hq with q | q | q
    · exact absurd (.inl q) c3
    · by_cases c4 : (adjF cl c (numD (addV y m d t u i))).1 > rd out ((out.length : Int) - 1)
      · exact absurd (.inr c4) c3
      · omega
    · exact absurd hz q

theorem ref_run (hl : cl.length ≤ 17592186044000) (hc : ¬ (c < 0 ∨ 3 < c)) (hD : Dates (addV y m d t u)) (K : Nat) (hK : 240000 + cl.length < K) : ∀ (n : Nat) (i : Int) (out : List Int), 0 ≤ i → i + n = 109574 → out.length ≤ i → e ≤ 109572 → Inv c cl y m d t u i out →
    payoffref02_Schedule.l1 (K + 2 * n + 2) c e cl out i y m d t u = some (runV (addV y m d t u) c e cl n i out) := by
  intro n
  induction n with
  | zero =>
    intro i out h0 hi ho he hI
    rw [show K + 2 * 0 + 2 = K + 2 by omega, rl1_end c e cl y m d t u K (by omega) out i hD h0 ?_]
    · rfl
    · rintro ⟨h1, h2⟩
      obtain ⟨N, rfl⟩ : ∃ N : Nat, i = N := ⟨i.toNat, by omega⟩
      have := hD.le N h1
      omega
  | succ n ih =>
    intro i out h0 hi ho he hI
    unfold runV
    by_cases h : (addV y m d t u i).2.2.2 = 0 ∧ numD (addV y m d t u i) ≤ e
    · rw [if_pos h, show K + 2 * (n + 1) + 2 = (K + 2 * n + 2) + 2 by omega, rl1_go c e cl y m d t u (K + 2 * n + 2) hl (by omega) out i hD h0 (by omega) (by omega) h.1 h.2 (hI.last c cl y m d t u hl hc hD h.1)]
      by_cases h2 : (adjF cl c (numD (addV y m d t u i))).2 = 0
      · rw [if_pos h2, if_pos h2]
        exact ih (i + 1) _ (by omega) (by omega) (by have := onto_len out (adjF cl c (numD (addV y m d t u i))).1; omega) he (hI.next c cl y m d t u hl hc hD h0 h.1 h2)
      · rw [if_neg h2, if_neg h2]
    · rw [if_neg h, rl1_end c e cl y m d t u (K + 2 * (n + 1)) (by omega) out i hD h0 h]
end

theorem rhol_loop (c b e : Int) (l : List S23) (y m d t u : Int) (hl : l.length ≤ 17592186044000) : ∀ (n K i : Nat), i + n = l.length → 400 < K →
    payoffref02_Schedule.l0 (K + n + 1) c l b e (nums (l.take i)) (i : Int) y m d t u =
      if oks (l.drop i) = true then (if b > e then some (([] : List Int), 2) else payoffref02_Schedule.l1 K c e (nums l) [] 0 y m d t u) else some (([] : List Int), 21) := by
  intro n
  induction n with
  | zero =>
    intro K i hi hK
    simp only [payoffref02_Schedule.l0]
    rw [if_neg (by omega), List.take_of_length_le (by omega), List.drop_eq_nil_of_le (by omega)]
    rfl
  | succ n ih =>
    intro K i hi hK
    rw [show K + (n + 1) + 1 = (K + n + 1) + 1 by omega]
    conv => lhs; rw [payoffref02_Schedule.l0]
    rw [if_pos (by omega), if_pos (by omega), oks_cons l i (by omega), show K + n + 1 = (K + n - 319) + 320 by omega, rday_eq, show (K + n - 319) + 320 = K + n + 1 by omega]
    simp only [Option.bind_some]
    cases ho : ok (rd_T23 l (i : Int)).f0 (rd_T23 l (i : Int)).f1 (rd_T23 l (i : Int)).f2 with
    | true =>
      have e1 : dayV (rd_T23 l (i : Int)).f0 (rd_T23 l (i : Int)).f1 (rd_T23 l (i : Int)).f2 = (num (rd_T23 l (i : Int)).f0 (rd_T23 l (i : Int)).f1 (rd_T23 l (i : Int)).f2, 0) := by unfold dayV; rw [ho]; rfl
      rw [e1]
      simp only [if_true, Bool.true_and]
      rw [if_pos (by rw [nums_len, List.length_take]; omega), ← nums_take l i (by omega), wq64 _ (by omega) (by omega), show ((i : Int) + 1) = ((i + 1 : Nat) : Int) by omega]
      exact ih K (i + 1) (by omega) hK
    | false =>
      have e1 : dayV (rd_T23 l (i : Int)).f0 (rd_T23 l (i : Int)).f1 (rd_T23 l (i : Int)).f2 = (0, 21) := by unfold dayV; rw [ho]; rfl
      rw [e1]
      simp

section
variable (y m d y2 m2 d2 t u c : Int) (l : List S23)
theorem rsched_bad (k : Nat) (h : tenor t u = false ∨ c < 0 ∨ 3 < c) : payoffref02_Schedule.f (k + 1) y m d y2 m2 d2 t u c l = some ([], 1) := by
  unfold payoffref02_Schedule.f
  rw [rtenor_eq]
  simp only [Option.bind_some]
  have J : payoffref02_Schedule.j0 (k + 1) c l true y m d y2 m2 d2 t u = some ([], 1) := by simp only [payoffref02_Schedule.j0, if_true]
  cases ht : tenor t u with
  | false => simp only [Bool.false_eq_true, if_false]; exact J
  | true =>
    simp only [if_true]
    by_cases c1 : c < 0
    · rw [if_pos c1]; exact J
    · rw [if_neg c1, decide_eq_true (by rw [ht] at h; simp at h; omega)]; exact J
theorem rsched_main (K : Nat) (hK : 400 < K) (hl : l.length ≤ 17592186044000) (ht : tenor t u = true) (hc : ¬ (c < 0 ∨ 3 < c)) :
    payoffref02_Schedule.f (K + l.length + 3) y m d y2 m2 d2 t u c l = if ok y m d = true ∧ ok y2 m2 d2 = true ∧ oks l = true then (if num y m d > num y2 m2 d2 then some (([] : List Int), 2) else payoffref02_Schedule.l1 K c (num y2 m2 d2) (nums l) [] 0 y m d t u) else some (([] : List Int), 21) := by
  unfold payoffref02_Schedule.f
  rw [rtenor_eq, ht]
  simp only [Option.bind_some, if_true]
  rw [if_neg (by omega), decide_eq_false (by omega)]
  simp only [payoffref02_Schedule.j0, Bool.false_eq_true, if_false]
  rw [show K + l.length + 2 = (K + l.length - 318) + 320 by omega, rday_eq, rday_eq, show (K + l.length - 318) + 320 = K + l.length + 2 by omega]
  simp only [Option.bind_some]
  have H := rhol_loop c (num y m d) (num y2 m2 d2) l y m d t u hl l.length K 0 (by omega) (by omega)
  rw [List.take_zero, List.drop_zero] at H
  unfold dayV
  cases h1 : ok y m d with
  | false => simp [payoffref02_Schedule.j1]
  | true =>
    simp only [if_true]
    cases h2 : ok y2 m2 d2 with
    | false => simp [payoffref02_Schedule.j1]
    | true =>
      simp only [if_true, payoffref02_Schedule.j1, bne_self_eq_false, Bool.false_eq_true, if_false, true_and]
      exact H

/-- The schedule. -/
def schedV : List Int × Int :=
  if tenor t u = false ∨ c < 0 ∨ 3 < c then ([], 1) else if ok y m d = true ∧ ok y2 m2 d2 = true ∧ oks l = true then (if num y m d > num y2 m2 d2 then ([], 2) else runV (addV y m d t u) c (num y2 m2 d2) (nums l) 109574 0 []) else ([], 21)
theorem schedV_len : (schedV y m d y2 m2 d2 t u c l).1.length ≤ 109574 := by
  unfold schedV
  split
  · simp
  · split
    · split
      · simp
      · have := runV_len (addV y m d t u) c (num y2 m2 d2) (nums l) 109574 0 []
        simpa using this
    · simp
theorem sched_both (k : Nat) (hl : l.length ≤ 17592186044000) (hk : 460000 + 2 * l.length + 10 ≤ k) :
    cal_Schedule.f k y m d y2 m2 d2 t u c l = some (schedV y m d y2 m2 d2 t u c l) ∧ payoffref02_Schedule.f k y m d y2 m2 d2 t u c l = some (schedV y m d y2 m2 d2 t u c l) := by
  by_cases hb : tenor t u = false ∨ c < 0 ∨ 3 < c
  · obtain ⟨k, rfl⟩ : ∃ j, k = j + 1 := ⟨k - 1, by omega⟩
    rw [sched_bad _ _ _ _ _ _ _ _ _ _ _ hb, rsched_bad _ _ _ _ _ _ _ _ _ _ _ hb]
    unfold schedV
    rw [if_pos hb]
    exact ⟨rfl, rfl⟩
  · have ht : tenor t u = true := by cases h : tenor t u with
      | true => rfl
      | false => exact absurd (.inl h) hb
    have hc : ¬ (c < 0 ∨ 3 < c) := fun h => hb (.inr h)
    obtain ⟨Q, hQ⟩ : ∃ Q, k = (Q + 2 * 109574 + 2) + l.length + 3 := ⟨k - 2 * 109574 - 5 - l.length, by omega⟩
    rw [hQ, sched_main y m d y2 m2 d2 t u c l _ (by omega) hl ht hc, rsched_main y m d y2 m2 d2 t u c l _ (by omega) hl ht hc]
    unfold schedV
    rw [if_neg hb]
    by_cases ho : ok y m d = true ∧ ok y2 m2 d2 = true ∧ oks l = true
    · rw [if_pos ho, if_pos ho, if_pos ho]
      by_cases hn : num y m d > num y2 m2 d2
      · rw [if_pos hn, if_pos hn, if_pos hn]; exact ⟨rfl, rfl⟩
      · rw [if_neg hn, if_neg hn, if_neg hn]
        have hD := dates y m d t u ht ho.1
        have he := (num_in y2 m2 d2 ho.2.1)
        have hnl := nums_len l
        rw [cal_run c (num y2 m2 d2) (nums l) y m d t u (by omega) hc hD Q (by omega) 109574 0 [] (by omega) (by omega) (by simp) (by omega), ref_run c (num y2 m2 d2) (nums l) y m d t u (by omega) hc hD Q (by omega) 109574 0 [] (by omega) (by omega) (by simp) (by omega) (.inl rfl)]
        exact ⟨rfl, rfl⟩
    · rw [if_neg ho, if_neg ho, if_neg ho]; exact ⟨rfl, rfl⟩
end
end Go.Proofs.YtdebllinaffceaaDoor.Plain
