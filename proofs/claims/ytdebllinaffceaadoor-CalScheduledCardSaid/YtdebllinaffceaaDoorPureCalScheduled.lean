/- For any plan: where Schedule refuses, its list is empty; where it tells a list, the list rises and holds just the adjusted dates of from, from and a tenor, from and two tenors, and so on, up to the last day; one schedule is told number by number. The holidays read as before. The package-level table cal.months is tied to the program's text. The list of holidays takes at most the memory that the row's sized condition names. No other condition. -/
import Derived.Test.YtdebllinaffceaaDoorPlainO
import Derived.Test.YtdebllinaffceaaDoorMPayofflaw02CalScheduled
namespace Go.Proofs.YtdebllinaffceaaDoor.Pure
open Go.RowKit Go.Proofs.YtdebllinaffceaaDoor.M Go.Proofs.YtdebllinaffceaaDoor.Plain Go.Proofs.YtdebllinaffceaaDoorW.PrintWords Go.Proofs.YtdebllinaffceaaDoorW.PrintLast

theorem ownDates_loop (l : List S23) (hl : l.length ≤ 4611686018427387904) : ∀ (n k i : Nat) (b : List S23), i + n = l.length → n < k → b.length = l.length + 2 → b.take i = l.take i →
    payofflaw02_ownDates.l0 k l b (i : Int) = some l := by
  intro n
  induction n with
  | zero =>
    intro k i b hi hk hb ht
    obtain ⟨k, rfl⟩ : ∃ m, k = m + 1 := ⟨k - 1, by omega⟩
    obtain rfl : i = l.length := by omega
    simp only [payofflaw02_ownDates.l0]
    rw [if_neg (by omega), if_pos (by omega), if_pos (by omega), wq64 _ (by omega) (by omega), if_pos (by omega), if_pos (by omega), if_pos (by omega)]
    congr 1
    rw [Int.toNat_natCast, List.take_set_of_le (by omega), List.take_set_of_le (by omega), ht, List.take_length]
  | succ n ih =>
    intro k i b hi hk hb ht
    obtain ⟨k, rfl⟩ : ∃ m, k = m + 1 := ⟨k - 1, by omega⟩
    simp only [payofflaw02_ownDates.l0]
    rw [if_pos (by omega), if_pos (by omega), if_pos (by omega), wq64 _ (by omega) (by omega), show ((i : Int) + 1) = ((i + 1 : Nat) : Int) by omega]
    refine ih k (i + 1) _ (by omega) (by omega) (by rw [List.length_set]; exact hb) ?_
    rw [Int.toNat_natCast, List.take_add_one, List.take_add_one, List.take_set_of_le (Nat.le_refl _), ht]
    congr 1
    rw [List.getElem?_set_self (by omega), List.getElem?_eq_getElem (by omega)]
    unfold rd_T23
    rw [Int.toNat_natCast, List.getD_eq_getElem?_getD, List.getElem?_eq_getElem (by omega)]
    rfl
theorem ownDates_eq (l : List S23) (hl : l.length ≤ 11728124029600) (k : Nat) (hk : l.length < k) : payofflaw02_ownDates.f k l = some l := by
  unfold payofflaw02_ownDates.f
  rw [wq64 _ (by omega) (by omega), if_pos (by omega), if_pos (by omega)]
  exact ownDates_loop l (by omega) l.length k 0 _ (by omega) hk (by rw [List.length_replicate]; omega) (by simp)

theorem numbers_loop (l : List S23) (hl : l.length ≤ 17592186044000) : ∀ (n k i : Nat), i + n = l.length → n + 20 < k →
    payofflaw02_numbers.l0 k l (nums (l.take i)) (i : Int) = some (if oks (l.drop i) = true then (nums l, true) else ([], false)) := by
  intro n
  induction n with
  | zero =>
    intro k i hi hk
    obtain ⟨k, rfl⟩ : ∃ m, k = m + 1 := ⟨k - 1, by omega⟩
    simp only [payofflaw02_numbers.l0]
    rw [if_neg (by omega), List.take_of_length_le (by omega), List.drop_eq_nil_of_le (by omega)]
    rfl
  | succ n ih =>
    intro k i hi hk
    obtain ⟨k, rfl⟩ : ∃ m, k = m + 1 := ⟨k - 1, by omega⟩
    simp only [payofflaw02_numbers.l0]
    rw [if_pos (by omega), if_pos (by omega), oks_cons l i (by omega), show k = (k - 13) + 13 by omega, day_eq, show (k - 13) + 13 = k by omega]
    simp only [Option.bind_some, payofflaw02_num.f]
    cases ho : ok (rd_T23 l (i : Int)).f0 (rd_T23 l (i : Int)).f1 (rd_T23 l (i : Int)).f2 with
    | true =>
      have e1 : dayV (rd_T23 l (i : Int)).f0 (rd_T23 l (i : Int)).f1 (rd_T23 l (i : Int)).f2 = (num (rd_T23 l (i : Int)).f0 (rd_T23 l (i : Int)).f1 (rd_T23 l (i : Int)).f2, 0) := by unfold dayV; rw [ho]; rfl
      rw [e1]
      simp only [if_true, Bool.true_and]
      rw [if_pos (by rw [nums_len, List.length_take]; omega), ← nums_take l i (by omega), wq64 _ (by omega) (by omega), show ((i : Int) + 1) = ((i + 1 : Nat) : Int) by omega]
      exact ih k (i + 1) (by omega) (by omega)
    | false =>
      have e1 : dayV (rd_T23 l (i : Int)).f0 (rd_T23 l (i : Int)).f1 (rd_T23 l (i : Int)).f2 = (0, 21) := by unfold dayV; rw [ho]; rfl
      rw [e1]
      simp
theorem numbers_eq (l : List S23) (hl : l.length ≤ 17592186044000) (k : Nat) (hk : l.length + 20 < k) : payofflaw02_numbers.f k l = some (if oks l = true then (nums l, true) else ([], false)) := by
  have := numbers_loop l hl l.length k 0 (by omega) hk
  unfold payofflaw02_numbers.f
  rw [List.take_zero, List.drop_zero] at this
  exact this

section
variable (L cl : List Int) (c e : Int) (y m d y2 m2 d2 t u : Int) (hol : List S23)

theorem law_end (K : Nat) (hK : 400 < K) (hD : Dates (addV y m d t u)) (a i : Int) (hi : 0 ≤ i) (h : ¬ ((addV y m d t u i).2.2.2 = 0 ∧ numD (addV y m d t u i) ≤ e)) :
    payofflaw02_CalScheduled.l0 (K + 2) L cl e a i y m d y2 m2 d2 t u c hol = some (a == wrap64 ((L.length : Int) - 1)) := by
  conv => lhs; rw [payofflaw02_CalScheduled.l0]
  rw [show K + 1 = (K - 319) + 320 by omega, add_eq]
  simp only [Option.bind_some]
  rw [show (K - 319) + 320 = (K - 12) + 13 by omega, day_eq]
  simp only [Option.bind_some, payofflaw02_num.f]
  rw [show K - 12 + 13 = K + 1 by omega]
  by_cases c1 : (addV y m d t u i).2.2.2 = 0
  · rw [if_pos c1]
    have o := hD.ok i hi c1
    have e1 : dayV (addV y m d t u i).1 (addV y m d t u i).2.1 (addV y m d t u i).2.2.1 = (numD (addV y m d t u i), 0) := by unfold dayV; rw [o]; rfl
    rw [e1]
    simp only [if_true]
    rw [decide_eq_true (by omega)]
    simp only [payofflaw02_CalScheduled.j2, if_true]
  · rw [if_neg c1]; simp only [payofflaw02_CalScheduled.j2, if_true]

theorem law_go (K : Nat) (hl : cl.length ≤ 17592186044000) (hK : 120000 + cl.length < K) (hD : Dates (addV y m d t u)) (a i : Int) (hi : 0 ≤ i) (h : (addV y m d t u i).2.2.2 = 0) (h2 : numD (addV y m d t u i) ≤ e) (h3 : (adjF cl c (numD (addV y m d t u i))).2 = 0) :
    payofflaw02_CalScheduled.l0 (K + 4) L cl e a i y m d y2 m2 d2 t u c hol = payofflaw02_CalScheduled.j3 (K + 2) L cl e a i (adjF cl c (numD (addV y m d t u i))).1 false y m d y2 m2 d2 t u c hol := by
  conv => lhs; rw [payofflaw02_CalScheduled.l0]
  rw [show K + 3 = (K - 317) + 320 by omega, add_eq]
  simp only [Option.bind_some]
  rw [show (K - 317) + 320 = (K - 10) + 13 by omega, day_eq]
  simp only [Option.bind_some, payofflaw02_num.f]
  rw [show K - 10 + 13 = K + 3 by omega, if_pos h]
  have o := hD.ok i hi h
  have e1 : dayV (addV y m d t u i).1 (addV y m d t u i).2.1 (addV y m d t u i).2.2.1 = (numD (addV y m d t u i), 0) := by unfold dayV; rw [o]; rfl
  rw [e1]
  simp only [if_true]
  rw [decide_eq_false (by omega)]
  simp only [payofflaw02_CalScheduled.j2, Bool.false_eq_true, if_false]
  rw [own_eq cl hl (K + 2) (by omega)]
  simp only [Option.bind_some]
  rw [adjF_eq cl (by omega) (K + 2) _ c (by omega)]
  simp only [Option.bind_some, payofflaw02_num.f, if_true]
  rw [h3]
  rfl

theorem law_first (K : Nat) (r : Int) (h0 : 0 < L.length) (hl : L.length ≤ 200000) (h1 : rd L 0 = r) :
    payofflaw02_CalScheduled.j3 (K + 2) L cl e 0 0 r false y m d y2 m2 d2 t u c hol = payofflaw02_CalScheduled.l0 K L cl e 0 1 y m d y2 m2 d2 t u c hol := by
  simp only [payofflaw02_CalScheduled.j3, Bool.false_eq_true, if_false]
  rw [if_neg (by omega)]
  simp only [payofflaw02_CalScheduled.j4, Bool.false_eq_true, if_false]
  rw [if_neg (by omega), if_pos (by omega), if_pos (by omega), if_pos h1, if_neg (by omega), wq64 _ (by omega) (by omega)]
  rfl
theorem law_same (K : Nat) (a i r : Int) (hi : 0 < i) (hi9 : i ≤ 200000) (ha : 0 ≤ a) (ha2 : a < L.length) (hl : L.length ≤ 200000) (h1 : rd L a = r) (h2 : 0 < a → rd L (a - 1) < r) :
    payofflaw02_CalScheduled.j3 (K + 2) L cl e a i r false y m d y2 m2 d2 t u c hol = payofflaw02_CalScheduled.l0 K L cl e a (i + 1) y m d y2 m2 d2 t u c hol := by
  simp only [payofflaw02_CalScheduled.j3, Bool.false_eq_true, if_false]
  rw [if_pos hi, if_pos ha, if_pos ha2, h1, bne_self_eq_false]
  simp only [payofflaw02_CalScheduled.j4, Bool.false_eq_true, if_false]
  rw [if_neg (by omega), if_pos (by omega), if_pos (by omega), if_pos h1, wq64 (i + 1) (by omega) (by omega)]
  by_cases c1 : a > 0
  · rw [if_pos c1, wq64 (a - 1) (by omega) (by omega), if_pos (by omega), if_pos (by omega), if_neg (by have := h2 c1; omega)]
  · rw [if_neg c1]
theorem law_next (K : Nat) (a i r : Int) (hi : 0 < i) (hi9 : i ≤ 200000) (ha : 0 ≤ a) (ha2 : a + 1 < L.length) (hl : L.length ≤ 200000) (h0 : rd L a < r) (h1 : rd L (a + 1) = r) :
    payofflaw02_CalScheduled.j3 (K + 2) L cl e a i r false y m d y2 m2 d2 t u c hol = payofflaw02_CalScheduled.l0 K L cl e (a + 1) (i + 1) y m d y2 m2 d2 t u c hol := by
  simp only [payofflaw02_CalScheduled.j3, Bool.false_eq_true, if_false]
  rw [if_pos hi, if_pos ha, if_pos (by omega), show (r != rd L a) = true from bne_iff_ne.2 (by omega)]
  simp only [payofflaw02_CalScheduled.j4, if_true]
  rw [wq64 (a + 1) (by omega) (by omega), wq64 (i + 1) (by omega) (by omega), if_neg (by omega), if_pos (by omega), if_pos (by omega), if_pos h1, if_pos (by omega), wq64 (a + 1 - 1) (by omega) (by omega), if_pos (by omega), if_pos (by omega), show a + 1 - 1 = a by omega, if_neg (by omega)]

end

/-- The two loops go in step. -/
theorem in_step (cl : List Int) (hl : cl.length ≤ 17592186044000) (c e : Int) (hc : ¬ (c < 0 ∨ 3 < c)) (y m d y2 m2 d2 t u : Int) (hol : List S23) (hD : Dates (addV y m d t u)) (he : e ≤ 109572) :
    ∀ (n : Nat) (i : Int) (out : List Int), i + n = 109600 → 1 ≤ i → out.length ≤ i → out ≠ [] → (addV y m d t u (i - 1)).2.2.2 = 0 → numD (addV y m d t u (i - 1)) ≤ e → (adjF cl c (numD (addV y m d t u (i - 1)))).2 = 0 →
      rd out ((out.length : Int) - 1) = (adjF cl c (numD (addV y m d t u (i - 1)))).1 → (2 ≤ out.length → rd out ((out.length : Int) - 2) < rd out ((out.length : Int) - 1)) →
      ∃ L x, (∀ K, 121000 + cl.length < K → cal_Schedule.l1 (K + 2 * n + 2) c e cl out i y m d t u = some (L, x)) ∧
        ((x ≠ 0 ∧ L = []) ∨ (x = 0 ∧ out <+: L ∧ L.length ≤ 109700 ∧ ∀ K, 121000 + cl.length < K → payofflaw02_CalScheduled.l0 (K + 4 * n + 2) L cl e ((out.length : Int) - 1) i y m d y2 m2 d2 t u c hol = some true)) := by
  intro n
  induction n with
  | zero =>
    intro i out hi h1 h2 h3 h4 h5 h6 h7 h8
    have hx : ¬ ((addV y m d t u i).2.2.2 = 0 ∧ numD (addV y m d t u i) ≤ e) := by
      rintro ⟨q1, q2⟩
      have := hD.le i.toNat (by rw [show ((i.toNat : Nat) : Int) = i by omega]; exact q1)
      rw [show ((i.toNat : Nat) : Int) = i by omega] at this
      omega
    have hne : 0 < out.length := List.length_pos_iff.2 h3
    refine ⟨out, 0, fun K hK => l1_end _ (by omega) c e cl out i y m d t u hD (by omega) hx, .inr ⟨rfl, List.prefix_refl _, by omega, fun K hK => ?_⟩⟩
    rw [law_end out cl c e y m d y2 m2 d2 t u hol _ (by omega) hD _ i (by omega) hx, wq64 _ (by omega) (by omega)]
    simp
  | succ n ih =>
    intro i out hi h1 h2 h3 h4 h5 h6 h7 h8
    have hne : 0 < out.length := List.length_pos_iff.2 h3
    by_cases hx : (addV y m d t u i).2.2.2 = 0 ∧ numD (addV y m d t u i) ≤ e
    · obtain ⟨q1, q2⟩ := hx
      have S := fun K hK => l1_go K c e cl out hl hK i y m d t u hD (by omega) (by omega) (by omega) q1 q2
      by_cases q3 : (adjF cl c (numD (addV y m d t u i))).2 = 0
      · have up := hD.up (i - 1) (by omega) (by rw [show i - 1 + 1 = i by omega]; exact q1)
        rw [show i - 1 + 1 = i by omega] at up
        have r0 := hD.range (i - 1) (by omega) h4
        have r1 := hD.range i (by omega) q1
        have mono := adj_mono cl (by omega) c _ _ hc r0.1 (by omega) r1.2 h6 q3
        rw [← h7] at mono
        obtain ⟨r, hr⟩ : ∃ r, (adjF cl c (numD (addV y m d t u i))).1 = r := ⟨_, rfl⟩
        rw [hr] at mono S
        have ei : i + 1 - 1 = i := by omega
        by_cases q4 : r = rd out ((out.length : Int) - 1)
        · have eo : onto out r = out := by unfold onto; rw [if_neg (by omega)]
          obtain ⟨L, x, k1, k2⟩ := ih (i + 1) out (by omega) (by omega) (by omega) h3 (by rw [ei]; exact q1) (by rw [ei]; exact q2) (by rw [ei]; exact q3) (by rw [ei, hr, q4]) h8
          refine ⟨L, x, fun K hK => ?_, ?_⟩
          · rw [show K + 2 * (n + 1) + 2 = (K + 2 * n + 2) + 2 by omega, S _ (by omega), if_pos q3, eo]; exact k1 K hK
          · rcases k2 with k2 | ⟨x0, k3, k4, k5⟩
            · exact .inl k2
            · refine .inr ⟨x0, k3, k4, fun K hK => ?_⟩
              have pl := k3.length_le
              rw [show K + 4 * (n + 1) + 2 = (K + 4 * n + 2) + 4 by omega, law_go L cl c e y m d y2 m2 d2 t u hol _ hl (by omega) hD _ i (by omega) q1 q2 q3, hr]
              rw [law_same L cl c e y m d y2 m2 d2 t u hol _ _ i r (by omega) (by omega) (by omega) (by omega) (by omega) (by rw [rd_pre k3 _ (by omega) (by omega), q4]) (fun q => by
                rw [rd_pre k3 _ (by omega) (by omega), q4, show (out.length : Int) - 1 - 1 = (out.length : Int) - 2 by omega]; exact h8 (by omega))]
              exact k5 K hK
        · have eo : onto out r = out ++ [r] := by unfold onto; rw [if_pos (.inr (by omega))]
          have el : (out ++ [r]).length = out.length + 1 := by simp
          have e9 : (((out ++ [r]).length : Nat) : Int) - 1 = (out.length : Int) := by omega
          obtain ⟨L, x, k1, k2⟩ := ih (i + 1) (out ++ [r]) (by omega) (by omega) (by omega) (by simp) (by rw [ei]; exact q1) (by rw [ei]; exact q2) (by rw [ei]; exact q3) (by rw [ei, hr, e9, rd_last]) (fun _ => by
            rw [e9, rd_last, show (((out ++ [r]).length : Nat) : Int) - 2 = (out.length : Int) - 1 by omega, rd_app _ _ _ (by omega) (by omega)]; omega)
          refine ⟨L, x, fun K hK => ?_, ?_⟩
          · rw [show K + 2 * (n + 1) + 2 = (K + 2 * n + 2) + 2 by omega, S _ (by omega), if_pos q3, eo]; exact k1 K hK
          · rcases k2 with k2 | ⟨x0, k3, k4, k5⟩
            · exact .inl k2
            · have k3' : out <+: L := (List.prefix_append out [r]).trans k3
              refine .inr ⟨x0, k3', k4, fun K hK => ?_⟩
              have pl := k3.length_le
              rw [show K + 4 * (n + 1) + 2 = (K + 4 * n + 2) + 4 by omega, law_go L cl c e y m d y2 m2 d2 t u hol _ hl (by omega) hD _ i (by omega) q1 q2 q3, hr]
              rw [law_next L cl c e y m d y2 m2 d2 t u hol _ _ i r (by omega) (by omega) (by omega) (by omega) (by omega) (by rw [rd_pre k3' _ (by omega) (by omega)]; omega)
                (by rw [show (out.length : Int) - 1 + 1 = (out.length : Int) by omega, rd_pre k3 _ (by omega) (by omega), rd_last])]
              rw [e9] at k5
              rw [show (out.length : Int) - 1 + 1 = (out.length : Int) by omega]
              exact k5 K hK
      · exact ⟨[], _, fun K hK => by rw [show K + 2 * (n + 1) + 2 = (K + 2 * n + 2) + 2 by omega, S _ (by omega), if_neg q3], .inl ⟨q3, rfl⟩⟩
    · refine ⟨out, 0, fun K hK => ?_, .inr ⟨rfl, List.prefix_refl _, by omega, fun K hK => ?_⟩⟩
      · exact l1_end _ (by omega) c e cl out i y m d t u hD (by omega) hx
      · rw [law_end out cl c e y m d y2 m2 d2 t u hol _ (by omega) hD _ i (by omega) hx, wq64 _ (by omega) (by omega)]
        simp

theorem adjF_zero (l : List Int) (hl : l.length ≤ 4611686018427387904) (d : Int) (h0 : 0 ≤ d) (h9 : d ≤ 109572) : adjF l 0 d = (d, 0) := by
  obtain ⟨up, hu⟩ := up_ex l hl d
  obtain ⟨dn, hd⟩ := dn_ex l hl d
  rw [adjF_val l hl d 0 up dn hu hd]
  unfold adjV
  rw [if_neg (by omega), if_neg (show ¬¬(0 ≤ d ∧ d ≤ 109572) from fun q => q ⟨h0, h9⟩), if_pos rfl]

section
variable (y m d y2 m2 d2 t u c : Int) (l : List S23)
theorem sched_bad (k : Nat) (h : tenor t u = false ∨ c < 0 ∨ 3 < c) : cal_Schedule.f (k + 1) y m d y2 m2 d2 t u c l = some ([], 1) := by
  unfold cal_Schedule.f
  rw [tenor_eq]
  simp only [Option.bind_some]
  have J : cal_Schedule.j0 (k + 1) c l true y m d y2 m2 d2 t u = some ([], 1) := by simp only [cal_Schedule.j0, if_true]
  cases ht : tenor t u with
  | false => simp only [Bool.false_eq_true, if_false]; exact J
  | true =>
    simp only [if_true]
    by_cases c1 : c < 0
    · rw [if_pos c1]; exact J
    · rw [if_neg c1, decide_eq_true (by rw [ht] at h; simp at h; omega)]; exact J
theorem sched_main (K : Nat) (hK : 400 < K) (hl : l.length ≤ 17592186044000) (ht : tenor t u = true) (hc : ¬ (c < 0 ∨ 3 < c)) :
    cal_Schedule.f (K + l.length + 3) y m d y2 m2 d2 t u c l = if ok y m d = true ∧ ok y2 m2 d2 = true ∧ oks l = true then (if num y m d > num y2 m2 d2 then some (([] : List Int), 2) else cal_Schedule.l1 K c (num y2 m2 d2) (nums l) [] 0 y m d t u) else some (([] : List Int), 21) := by
  unfold cal_Schedule.f
  rw [tenor_eq, ht]
  simp only [Option.bind_some, if_true]
  rw [if_neg (by omega), decide_eq_false (by omega)]
  simp only [cal_Schedule.j0, Bool.false_eq_true, if_false]
  rw [show K + l.length + 2 = (K + l.length - 11) + 13 by omega, day_eq, day_eq, show (K + l.length - 11) + 13 = K + l.length + 2 by omega]
  simp only [Option.bind_some]
  have H := hol_loop c (num y m d) (num y2 m2 d2) l y m d t u hl l.length K 0 (by omega) (by omega)
  rw [List.take_zero, List.drop_zero] at H
  unfold dayV
  cases h1 : ok y m d with
  | false => simp [cal_Schedule.j1]
  | true =>
    simp only [if_true]
    cases h2 : ok y2 m2 d2 with
    | false => simp [cal_Schedule.j1]
    | true =>
      simp only [if_true, cal_Schedule.j1, bne_self_eq_false, Bool.false_eq_true, if_false, true_and]
      exact H
end

theorem plain_one (K : Nat) (hK : 130000 < K) : cal_Schedule.f (K + 11) 2024 1 31 2024 3 31 1 3 0 [] = some ([45320, 45349, 45380], 0) := by
  have D := dates 2024 1 31 1 3 (by decide) (by decide)
  have e : num 2024 3 31 = 45380 := by decide
  have n0 : numD (addV 2024 1 31 1 3 0) = 45320 := by decide
  have n1 : numD (addV 2024 1 31 1 3 1) = 45349 := by decide
  have n2 : numD (addV 2024 1 31 1 3 2) = 45380 := by decide
  have n3 : ¬ ((addV 2024 1 31 1 3 3).2.2.2 = 0 ∧ numD (addV 2024 1 31 1 3 3) ≤ 45380) := by decide
  have S := sched_main 2024 1 31 2024 3 31 1 3 0 [] (K + 8) (by omega) (by simp) (by decide) (by decide)
  rw [if_pos (by decide), if_neg (by decide), e] at S
  rw [show K + 11 = (K + 8) + ([] : List S23).length + 3 from rfl, S]
  have z : nums [] = [] := rfl
  rw [z, show K + 8 = (K + 6) + 2 by omega, l1_go (K + 6) 0 45380 [] [] (by simp) (by simp; omega) 0 2024 1 31 1 3 D (by omega) (by omega) (by simp) (by decide) (by rw [n0]; omega), n0, adjF_zero [] (by simp) _ (by omega) (by omega), if_pos rfl,
    show K + 6 = (K + 4) + 2 by omega, l1_go (K + 4) 0 45380 [] _ (by simp) (by simp; omega) (0 + 1) 2024 1 31 1 3 D (by omega) (by omega) (by simp [onto]) (by decide) (by rw [show (0 : Int) + 1 = 1 by omega, n1]; omega), show (0 : Int) + 1 = 1 by omega, n1, adjF_zero [] (by simp) _ (by omega) (by omega), if_pos rfl,
    show K + 4 = (K + 2) + 2 by omega, l1_go (K + 2) 0 45380 [] _ (by simp) (by simp; omega) (1 + 1) 2024 1 31 1 3 D (by omega) (by omega) (by simp [onto, rd]) (by decide) (by rw [show (1 : Int) + 1 = 2 by omega, n2]; omega), show (1 : Int) + 1 = 2 by omega, n2, adjF_zero [] (by simp) _ (by omega) (by omega), if_pos rfl,
    show (2 : Int) + 1 = 3 by omega, l1_end K (by omega) 0 45380 [] _ 3 2024 1 31 1 3 D (by omega) n3]
  simp [onto, rd]

theorem CalScheduled (a0_0 a0_1 a0_2 a0_3 a0_4 a0_5 a0_6 a0_7 a0_8 : Int) (l0_9 : List S23) (hl : l0_9.length ≤ 11728124029600) : ∃ k, payofflaw02_CalScheduled.f k a0_0 a0_1 a0_2 a0_3 a0_4 a0_5 a0_6 a0_7 a0_8 l0_9 = some true := by
  obtain ⟨N, hN⟩ : ∃ N, N = 1000000 + 4 * l0_9.length := ⟨_, rfl⟩
  refine ⟨N, ?_⟩
  have P1 : cal_Schedule.f N 2024 1 31 2024 3 31 1 3 0 [] = some ([45320, 45349, 45380], 0) := by
    rw [show N = (N - 11) + 11 by omega]; exact plain_one (N - 11) (by omega)
  have r0 : rd [45320, 45349, 45380] 0 = 45320 := rfl
  have r1 : rd [45320, 45349, 45380] 1 = 45349 := rfl
  have r2 : rd [45320, 45349, 45380] 2 = 45380 := rfl
  unfold payofflaw02_CalScheduled.f
  rw [ownDates_eq l0_9 hl N (by omega), P1, numbers_eq l0_9 (by omega) N (by omega)]
  simp only [Option.bind_some]
  have fin : ∀ (x : Int) (q : Int × Int) (p : Int × Int) (nn : List Int × Bool), x ≠ 0 → cal_Schedule.f N a0_0 a0_1 a0_2 a0_3 a0_4 a0_5 a0_6 a0_7 a0_8 l0_9 = some ([], x) → True := fun _ _ _ _ _ _ => trivial
  clear fin
  rw [show N = (N - 13) + 13 by omega, day_eq, day_eq, show (N - 13) + 13 = N by omega]
  simp only [Option.bind_some, payofflaw02_num.f, if_true, r0, r1, r2, List.length_cons, List.length_nil]
  by_cases hb : tenor a0_6 a0_7 = false ∨ a0_8 < 0 ∨ 3 < a0_8
  · rw [show N = (N - 1) + 1 by omega, sched_bad _ _ _ _ _ _ _ _ _ _ _ hb]; simp
  have ht : tenor a0_6 a0_7 = true := by
    cases h : tenor a0_6 a0_7 with
    | true => rfl
    | false => exact absurd (.inl h) hb
  have hc : ¬ (a0_8 < 0 ∨ 3 < a0_8) := fun h => hb (.inr h)
  have S := sched_main a0_0 a0_1 a0_2 a0_3 a0_4 a0_5 a0_6 a0_7 a0_8 l0_9 (N - l0_9.length - 3) (by omega) (by omega) ht hc
  rw [show N - l0_9.length - 3 + l0_9.length + 3 = N by omega] at S
  by_cases hk : ok a0_0 a0_1 a0_2 = true ∧ ok a0_3 a0_4 a0_5 = true ∧ oks l0_9 = true
  · rw [if_pos hk] at S
    obtain ⟨k1, k2, k3⟩ := hk
    by_cases hg : num a0_0 a0_1 a0_2 > num a0_3 a0_4 a0_5
    · rw [if_pos hg] at S
      rw [S]; simp
    · rw [if_neg hg] at S
      have D := dates a0_0 a0_1 a0_2 a0_6 a0_7 ht k1
      have z0 := addV_zero a0_0 a0_1 a0_2 a0_6 a0_7 ht k1
      have q1 : (addV a0_0 a0_1 a0_2 a0_6 a0_7 0).2.2.2 = 0 := by rw [z0]
      have q2 : numD (addV a0_0 a0_1 a0_2 a0_6 a0_7 0) = num a0_0 a0_1 a0_2 := by rw [z0]; rfl
      have nl := nums_len l0_9
      have rt := num_in _ _ _ k2
      have G := l1_go (N - l0_9.length - 5) a0_8 (num a0_3 a0_4 a0_5) (nums l0_9) [] (by omega) (by omega) 0 a0_0 a0_1 a0_2 a0_6 a0_7 D (by omega) (by omega) (by simp) q1 (by rw [q2]; omega)
      rw [show N - l0_9.length - 5 + 2 = N - l0_9.length - 3 by omega] at G
      rw [G] at S
      have d1 : dayV a0_3 a0_4 a0_5 = (num a0_3 a0_4 a0_5, 0) := by unfold dayV; rw [k2]; rfl
      have d2 : dayV a0_0 a0_1 a0_2 = (num a0_0 a0_1 a0_2, 0) := by unfold dayV; rw [k1]; rfl
      by_cases q3 : (adjF (nums l0_9) a0_8 (numD (addV a0_0 a0_1 a0_2 a0_6 a0_7 0))).2 = 0
      · rw [if_pos q3] at S
        obtain ⟨r, hr⟩ : ∃ r, (adjF (nums l0_9) a0_8 (numD (addV a0_0 a0_1 a0_2 a0_6 a0_7 0))).1 = r := ⟨_, rfl⟩
        have eo : onto [] r = [r] := by unfold onto; simp
        rw [hr, eo, show (0 : Int) + 1 = 1 by omega] at S
        obtain ⟨L, x, g1, g2⟩ := in_step (nums l0_9) (by omega) a0_8 (num a0_3 a0_4 a0_5) hc a0_0 a0_1 a0_2 a0_3 a0_4 a0_5 a0_6 a0_7 l0_9 D (by omega) 109599 1 [r] (by omega) (by omega) (by simp) (by simp) (by rw [show (1 : Int) - 1 = 0 by omega]; exact q1) (by rw [show (1 : Int) - 1 = 0 by omega, q2]; omega) (by rw [show (1 : Int) - 1 = 0 by omega]; exact q3) (by rw [show (1 : Int) - 1 = 0 by omega, hr]; rfl) (by simp)
        have g3 := g1 (N - l0_9.length - 5 - 2 * 109599 - 2) (by omega)
        rw [show N - l0_9.length - 5 - 2 * 109599 - 2 + 2 * 109599 + 2 = N - l0_9.length - 5 by omega] at g3
        rw [g3] at S
        rw [S]
        simp only [Option.bind_some]
        rcases g2 with ⟨x0, rfl⟩ | ⟨rfl, g4, g5, g6⟩
        · rw [if_pos (by omega), if_pos (by omega), if_pos (by omega), if_pos (by omega), if_neg x0]; rfl
        · have g7 := g4.length_le
          simp only [List.length_cons, List.length_nil] at g7
          rw [if_pos (by omega), if_pos (by omega), if_pos (by omega), if_pos (by omega), d1, d2, k3]
          simp only [if_true]
          rw [if_neg (by omega), show ((L.length : Int) == 0) = false from beq_eq_false_iff_ne.2 (by omega)]
          rw [show N = (N - 1) + 1 by omega]
          simp only [payofflaw02_CalScheduled.j0, Bool.false_eq_true, if_false]
          have g8 := g6 (N - 1 - 4 - 4 * 109599 - 2) (by omega)
          rw [show N - 1 - 4 - 4 * 109599 - 2 + 4 * 109599 + 2 = N - 1 - 4 by omega] at g8
          rw [show N - 1 = (N - 1 - 4) + 4 by omega, law_go L (nums l0_9) a0_8 _ a0_0 a0_1 a0_2 a0_3 a0_4 a0_5 a0_6 a0_7 l0_9 _ (by omega) (by omega) D 0 0 (by omega) q1 (by rw [q2]; omega) q3, hr,
            law_first L (nums l0_9) a0_8 _ a0_0 a0_1 a0_2 a0_3 a0_4 a0_5 a0_6 a0_7 l0_9 _ r (by omega) (by omega) (by rw [rd_pre g4 0 (by omega) (by simp)]; rfl)]
          exact g8
      · rw [if_neg q3] at S
        rw [S]
        simp only [Option.bind_some]
        rw [if_pos (by omega), if_pos (by omega), if_pos (by omega), if_pos (by omega), if_neg q3]; rfl
  · rw [if_neg hk] at S
    rw [S]; simp

end Go.Proofs.YtdebllinaffceaaDoor.Pure
