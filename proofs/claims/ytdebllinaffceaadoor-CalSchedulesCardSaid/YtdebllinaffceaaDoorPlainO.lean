/- The given function Schedule, round by round. -/
import Derived.Test.YtdebllinaffceaaDoorVWords
import Derived.Test.YtdebllinaffceaaDoorPlainM
namespace Go.Proofs.YtdebllinaffceaaDoor.Plain
open Go.RowKit Go.Proofs.YtdebllinaffceaaDoor.M Go.Proofs.YtdebllinaffceaaDoorW.PrintWords Go.Proofs.YtdebllinaffceaaDoorW.PrintLast

theorem oks_cons (l : List S23) (i : Nat) (h : i < l.length) : oks (l.drop i) = (ok (rd_T23 l (i : Int)).f0 (rd_T23 l (i : Int)).f1 (rd_T23 l (i : Int)).f2 && oks (l.drop (i + 1))) := by
  rw [rd23_drop l i h]; rfl

theorem hol_loop (c b e : Int) (l : List S23) (y m d t u : Int) (hl : l.length ≤ 17592186044000) : ∀ (n K i : Nat), i + n = l.length → 20 < K →
    cal_Schedule.l0 (K + n + 1) c b e (nums (l.take i)) l (l.length : Int) (i : Int) y m d t u =
      if oks (l.drop i) = true then (if b > e then some (([] : List Int), 2) else cal_Schedule.l1 K c e (nums l) [] 0 y m d t u) else some (([] : List Int), 21) := by
  intro n
  induction n with
  | zero =>
    intro K i hi hK
    simp only [cal_Schedule.l0]
    rw [if_neg (by omega), List.take_of_length_le (by omega), List.drop_eq_nil_of_le (by omega)]
    rfl
  | succ n ih =>
    intro K i hi hK
    rw [show K + (n + 1) + 1 = (K + n + 1) + 1 by omega]
    conv => lhs; rw [cal_Schedule.l0]
    rw [if_pos (by omega), if_pos (by omega), if_pos (by omega), oks_cons l i (by omega), show K + n + 1 = (K + n - 12) + 13 by omega, day_eq, show (K + n - 12) + 13 = K + n + 1 by omega]
    simp only [Option.bind_some]
    cases ho : ok (rd_T23 l (i : Int)).f0 (rd_T23 l (i : Int)).f1 (rd_T23 l (i : Int)).f2 with
    | true =>
      have e1 : dayV (rd_T23 l (i : Int)).f0 (rd_T23 l (i : Int)).f1 (rd_T23 l (i : Int)).f2 = (num (rd_T23 l (i : Int)).f0 (rd_T23 l (i : Int)).f1 (rd_T23 l (i : Int)).f2, 0) := by unfold dayV; rw [ho]; rfl
      rw [e1]
      simp only [if_true, Bool.true_and]
      rw [if_pos (by rw [nums_len, List.length_take]; omega), ← nums_take l i (by omega), wq64 _ (by omega) (by omega), show ((i : Int) + 1) = ((i + 1 : Nat) : Int) by omega]
      exact ih K (i + 1) (by omega) hK
    | false =>
      have e1 : dayV (rd_T23 l (i : Int)).f0 (rd_T23 l (i : Int)).f1 (rd_T23 l (i : Int)).f2 = (0, 21) := by unfold dayV; rw [ho]; rfl
      rw [e1]
      simp

/-- The days told so far, with one more. -/
def onto (out : List Int) (r : Int) : List Int := if out.length = 0 ∨ r > rd out ((out.length : Int) - 1) then out ++ [r] else out

theorem l1_end (K : Nat) (hK : 400 < K) (c e : Int) (cl out : List Int) (i y m d t u : Int) (hD : Dates (addV y m d t u)) (hi : 0 ≤ i) (h : ¬ ((addV y m d t u i).2.2.2 = 0 ∧ numD (addV y m d t u i) ≤ e)) :
    cal_Schedule.l1 (K + 2) c e cl out i y m d t u = some (out, 0) := by
  simp only [cal_Schedule.l1]
  rw [show K + 1 = (K - 319) + 320 by omega, add_eq]
  simp only [Option.bind_some]
  rw [show (K - 319) + 320 = (K - 12) + 13 by omega, day_eq]
  simp only [Option.bind_some]
  have J : cal_Schedule.j4 (K - 12 + 13) c e cl out i (dayV (addV y m d t u i).1 (addV y m d t u i).2.1 (addV y m d t u i).2.2.1).1 true y m d t u = some (out, 0) := by
    rw [show K - 12 + 13 = K + 1 by omega]; simp only [cal_Schedule.j4, if_true]
  by_cases c1 : (addV y m d t u i).2.2.2 = 0
  · rw [if_pos c1]
    have o := hD.ok i hi c1
    have e1 : dayV (addV y m d t u i).1 (addV y m d t u i).2.1 (addV y m d t u i).2.2.1 = (numD (addV y m d t u i), 0) := by unfold dayV; rw [o]; rfl
    rw [e1] at J ⊢
    simp only [if_true]
    rw [decide_eq_true (by omega)]
    exact J
  · rw [if_neg c1]; exact J

theorem l1_go (K : Nat) (c e : Int) (cl out : List Int) (hl : cl.length ≤ 17592186044000) (hK : 120000 + cl.length < K) (i y m d t u : Int) (hD : Dates (addV y m d t u)) (hi : 0 ≤ i) (hi9 : i ≤ 200000) (ho : out.length ≤ 200000)
    (h : (addV y m d t u i).2.2.2 = 0) (h2 : numD (addV y m d t u i) ≤ e) :
    cal_Schedule.l1 (K + 2) c e cl out i y m d t u = if (adjF cl c (numD (addV y m d t u i))).2 = 0 then cal_Schedule.l1 K c e cl (onto out (adjF cl c (numD (addV y m d t u i))).1) (i + 1) y m d t u else some (([] : List Int), (adjF cl c (numD (addV y m d t u i))).2) := by
  conv => lhs; rw [cal_Schedule.l1]
  rw [show K + 1 = (K - 319) + 320 by omega, add_eq]
  simp only [Option.bind_some]
  rw [show (K - 319) + 320 = (K - 12) + 13 by omega, day_eq]
  simp only [Option.bind_some]
  have o := hD.ok i hi h
  have e1 : dayV (addV y m d t u i).1 (addV y m d t u i).2.1 (addV y m d t u i).2.2.1 = (numD (addV y m d t u i), 0) := by unfold dayV; rw [o]; rfl
  rw [if_pos h, e1]
  simp only [if_true]
  rw [decide_eq_false (by omega), show K - 12 + 13 = K + 1 by omega]
  simp only [cal_Schedule.j4, Bool.false_eq_true, if_false]
  rw [adjF_eq cl (by omega) K _ c (by omega)]
  simp only [Option.bind_some]
  by_cases c2 : (adjF cl c (numD (addV y m d t u i))).2 = 0
  · rw [if_pos c2, if_pos c2]
    unfold onto
    by_cases c3 : out.length = 0
    · rw [if_pos (by omega), if_pos (by omega), if_pos (.inl c3), wq64 _ (by omega) (by omega)]
    · rw [if_neg (by omega), wq64 ((out.length : Int) - 1) (by omega) (by omega), if_pos (by omega), if_pos (by omega)]
      by_cases c4 : (adjF cl c (numD (addV y m d t u i))).1 > rd out ((out.length : Int) - 1)
      · rw [if_pos c4, if_pos (by omega), if_pos (.inr c4), wq64 _ (by omega) (by omega)]
      · rw [if_neg c4, if_neg (by simp only [c3, c4, or_self, not_false_eq_true]), wq64 _ (by omega) (by omega)]
  · rw [if_neg c2, if_neg c2]

theorem rd_app (a b : List Int) (i : Int) (h0 : 0 ≤ i) (h : i < a.length) : rd (a ++ b) i = rd a i := by
  unfold rd
  rw [List.getD_eq_getElem?_getD, List.getD_eq_getElem?_getD, List.getElem?_append_left (by omega)]
theorem rd_last (a : List Int) (x : Int) : rd (a ++ [x]) (a.length : Int) = x := by
  unfold rd
  rw [List.getD_eq_getElem?_getD, Int.toNat_natCast, List.getElem?_append_right (Nat.le_refl _)]
  simp
theorem rd_pre {a L : List Int} (h : a <+: L) (i : Int) (h0 : 0 ≤ i) (hi : i < a.length) : rd L i = rd a i := by
  obtain ⟨b, rfl⟩ := h
  exact rd_app a b i h0 hi

end Go.Proofs.YtdebllinaffceaaDoor.Plain
