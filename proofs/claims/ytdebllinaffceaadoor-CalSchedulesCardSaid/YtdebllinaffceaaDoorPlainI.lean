/- What the document's Adjust makes of a day, and when two lists are the same. -/
import Derived.Test.YtdebllinaffceaaDoorVWords
import Derived.Test.YtdebllinaffceaaDoorPlainH
import Derived.Test.YtdebllinaffceaaDoorPlainL
import Derived.Test.YtdebllinaffceaaDoorMPayoffref02Business
import Derived.Test.YtdebllinaffceaaDoorMPayoffref02Adjust
import Derived.Test.YtdebllinaffceaaDoorMPayofflaw02SameInts
namespace Go.Proofs.YtdebllinaffceaaDoor.Plain
open Go.RowKit Go.Proofs.YtdebllinaffceaaDoor.M Go.Proofs.YtdebllinaffceaaDoorW.PrintWords Go.Proofs.YtdebllinaffceaaDoorW.PrintLast

theorem rbus_loop (l : List Int) (a : Int) (hl : l.length ≤ 4611686018427387904) : ∀ (n k i : Nat), i + n = l.length → n < k →
    payoffref02_Business.l0 k a l (i : Int) = some (decide (a ∉ l.drop i)) := by
  intro n
  induction n with
  | zero =>
    intro k i hi hk
    obtain ⟨k, rfl⟩ : ∃ m, k = m + 1 := ⟨k - 1, by omega⟩
    simp only [payoffref02_Business.l0]; rw [if_neg (by omega), List.drop_eq_nil_of_le (by omega)]; simp
  | succ n ih =>
    intro k i hi hk
    obtain ⟨k, rfl⟩ : ∃ m, k = m + 1 := ⟨k - 1, by omega⟩
    simp only [payoffref02_Business.l0]
    rw [if_pos (by omega), if_pos (by omega), rd_drop l i (by omega)]
    by_cases c : rd l (i : Int) = a
    · rw [if_pos c, c]; simp
    · rw [if_neg c, wq64 _ (by omega) (by omega), show ((i : Int) + 1) = ((i + 1 : Nat) : Int) by omega, ih k (i + 1) (by omega) (by omega)]
      congr 1
      rw [decide_eq_decide, List.mem_cons]
      exact ⟨fun h h2 => h2.elim (fun h3 => c h3.symm) h, fun h h2 => h (.inr h2)⟩

theorem rbusiness_eq (l : List Int) (d : Int) (hl : l.length ≤ 4611686018427387904) (k : Nat) (hk : l.length + 1 < k) : payoffref02_Business.f k d l = some (bus d l) := by
  obtain ⟨k, rfl⟩ : ∃ m, k = m + 1 := ⟨k - 1, by omega⟩
  have L := rbus_loop l d hl l.length k 0 (by omega) (by omega)
  rw [show ((0 : Nat) : Int) = 0 from rfl, List.drop_zero] at L
  unfold payoffref02_Business.f
  by_cases c1 : d < 0
  · rw [if_pos c1, bus_no _ _ (by omega)]; simp [payoffref02_Business.j0]
  · rw [if_neg c1]
    by_cases c2 : d ≥ 109573
    · rw [if_pos c2, bus_no _ _ (by omega)]; simp [payoffref02_Business.j0]
    · rw [if_neg c2, Int.tmod_eq_emod_of_nonneg (by omega)]
      by_cases c3 : d % 7 > 4
      · rw [decide_eq_true c3]; simp only [payoffref02_Business.j0, if_true]; unfold bus; rw [decide_eq_false (by omega)]
      · rw [decide_eq_false c3]; simp only [payoffref02_Business.j0, Bool.false_eq_true, if_false]; rw [L]
        unfold bus
        congr 1
        rw [decide_eq_decide]
        exact ⟨fun h => ⟨by omega, by omega, by omega, h⟩, fun h => h.2.2.2⟩

theorem rfrom_up (l : List Int) (hl : l.length ≤ 4611686018427387904) : ∀ (n k : Nat) (d : Int), 0 ≤ d → d + n = 109573 → 2 * n + l.length + 4 < k → ∃ r, payoffref02_from.l0 k 1 l d = some r ∧ Up l d r := by
  intro n
  induction n with
  | zero =>
    intro k d h0 h1 hk
    obtain ⟨k, rfl⟩ : ∃ m, k = m + 2 := ⟨k - 2, by omega⟩
    refine ⟨-1, ?_, .inl ⟨rfl, fun e he => bus_no _ _ (by omega)⟩⟩
    simp only [payoffref02_from.l0]
    rw [if_pos (by omega), decide_eq_false (by omega)]
    simp [payoffref02_from.j1]
  | succ n ih =>
    intro k d h0 h1 hk
    obtain ⟨k, rfl⟩ : ∃ m, k = m + 2 := ⟨k - 2, by omega⟩
    obtain ⟨r, h2, h3⟩ := ih k (d + 1) (by omega) (by omega) (by omega)
    simp only [payoffref02_from.l0]
    rw [if_pos (by omega), decide_eq_true (by omega)]
    simp only [payoffref02_from.j1, if_true]
    rw [rbusiness_eq l d hl k (by omega), wq64 _ (by omega) (by omega), h2]
    simp only [Option.bind_some]
    cases hb : bus d l with
    | true => exact ⟨_, rfl, Up.here hb⟩
    | false => exact ⟨_, rfl, Up.on hb h3⟩
theorem rfrom_dn (l : List Int) (hl : l.length ≤ 4611686018427387904) : ∀ (n k : Nat) (d : Int), d ≤ 109572 → d + 1 = n → 2 * n + l.length + 4 < k → ∃ r, payoffref02_from.l0 k (-1) l d = some r ∧ Dn l d r := by
  intro n
  induction n with
  | zero =>
    intro k d h0 h1 hk
    obtain ⟨k, rfl⟩ : ∃ m, k = m + 2 := ⟨k - 2, by omega⟩
    refine ⟨-1, ?_, .inl ⟨rfl, fun e he => bus_no _ _ (by omega)⟩⟩
    simp only [payoffref02_from.l0]
    rw [if_neg (by omega)]
    simp [payoffref02_from.j1]
  | succ n ih =>
    intro k d h0 h1 hk
    obtain ⟨k, rfl⟩ : ∃ m, k = m + 2 := ⟨k - 2, by omega⟩
    obtain ⟨r, h2, h3⟩ := ih k (d - 1) (by omega) (by omega) (by omega)
    simp only [payoffref02_from.l0]
    rw [if_pos (by omega), decide_eq_true (by omega)]
    simp only [payoffref02_from.j1, if_true]
    rw [rbusiness_eq l d hl k (by omega), wq64 _ (by omega) (by omega), show d + -1 = d - 1 by omega, h2]
    simp only [Option.bind_some]
    cases hb : bus d l with
    | true => exact ⟨_, rfl, Dn.here hb⟩
    | false => exact ⟨_, rfl, Dn.on hb h3⟩

theorem rmonth_eq (k : Nat) (x : Int) (h0 : 0 ≤ x) (h9 : x ≤ 109572) : payoffref02_month.f (k + 320) x = some (12 * (dateV x).1 + (dateV x).2.1) := by
  unfold payoffref02_month.f
  rw [rdate_eq]
  obtain ⟨y, m, d, e, o, -⟩ := dateV_in x h0 h9
  rw [e]
  have q := (ok_iff _ _ _).1 o
  simp only [Option.bind_some]
  rw [wq64 (12 * y) (by omega) (by omega), wq64 _ (by omega) (by omega)]

theorem sm_month (a b : Int) (h0 : 0 ≤ a) (h9 : a ≤ 109572) (k0 : 0 ≤ b) (k9 : b ≤ 109572) : sm a b = true ↔ 12 * (dateV b).1 + (dateV b).2.1 = 12 * (dateV a).1 + (dateV a).2.1 := by
  obtain ⟨y, m, d, e, o, -⟩ := dateV_in a h0 h9
  obtain ⟨y', m', d', e', o', -⟩ := dateV_in b k0 k9
  have q := (ok_iff _ _ _).1 o
  have q' := (ok_iff _ _ _).1 o'
  unfold sm
  rw [decide_eq_true_iff, e, e']
  simp only [true_and]
  omega
theorem sm_none (a : Int) : sm a (-1) = false := by
  unfold sm
  rw [dateV_out (-1) (by omega)]
  simp

theorem radj_eq (l : List Int) (hl : l.length ≤ 4611686018427387904) (k : Nat) (d c up dn : Int) (hu : 0 ≤ d → d ≤ 109572 → Up l d up) (hd : 0 ≤ d → d ≤ 109572 → Dn l d dn) (hk : 230000 + l.length < k) :
    payoffref02_Adjust.f k d c l = some (adjV d c up dn) := by
  obtain ⟨k, rfl⟩ : ∃ m, k = m + 6 := ⟨k - 6, by omega⟩
  unfold payoffref02_Adjust.f adjV
  by_cases c1 : c < 0
  · rw [if_pos c1, if_pos (.inl c1)]; simp [payoffref02_Adjust.j0]
  · rw [if_neg c1]
    by_cases c2 : c > 3
    · rw [if_pos (.inr c2), decide_eq_true c2]; simp [payoffref02_Adjust.j0]
    · rw [if_neg (by omega), decide_eq_false c2]
      simp only [payoffref02_Adjust.j0, Bool.false_eq_true, if_false]
      by_cases c3 : 0 ≤ d ∧ d ≤ 109572
      · rw [if_neg (by omega), decide_eq_false (by omega)]
        simp only [payoffref02_Adjust.j1, Bool.false_eq_true, if_false]
        rw [if_neg (show ¬¬(0 ≤ d ∧ d ≤ 109572) from fun h => h c3)]
        by_cases c4 : c = 0
        · rw [if_pos c4, if_pos c4]
        · rw [if_neg c4, if_neg c4]
          obtain ⟨u, hu1, hu2⟩ := rfrom_up l hl (109573 - d).toNat (k + 4) d c3.1 (by omega) (by omega)
          obtain ⟨v, hv1, hv2⟩ := rfrom_dn l hl (d + 1).toNat k d c3.2 (by omega) (by omega)
          obtain rfl := hu2.one (hu c3.1 c3.2)
          obtain rfl := hv2.one (hd c3.1 c3.2)
          have ru := hu2.range
          have J5 : ∀ (x : Int) (b : Bool), payoffref02_Adjust.j5 (k + 1) d l x b = some (if b = true then (if v < 0 then (0, 2) else (v, 0)) else (if x < 0 then (0, 2) else (x, 0))) := by
            intro x b
            simp only [payoffref02_Adjust.j5, payoffref02_from.f]
            cases b with
            | true => rw [if_pos rfl, hv1]; simp only [Option.bind_some, if_true]; split <;> rfl
            | false => simp only [Bool.false_eq_true, if_false]; split <;> rfl
          by_cases c5 : c = 3
          · rw [if_pos c5, if_pos (.inl c5)]
            simp only [payoffref02_Adjust.j2]
            rw [if_neg (by omega)]
            simp only [payoffref02_Adjust.j3, payoffref02_Adjust.j4, Bool.false_eq_true, if_false]
            rw [if_pos c5, J5, if_pos rfl]
          · rw [if_neg c5]
            simp only [payoffref02_from.f]
            rw [hu1]
            simp only [Option.bind_some, payoffref02_Adjust.j2]
            by_cases c6 : c = 2
            · rw [if_pos c6]
              by_cases c7 : u ≥ 0
              · rw [if_pos c7, show k + 3 = (k - 317) + 320 by omega, rmonth_eq _ u (by omega) (by omega), rmonth_eq _ d c3.1 c3.2, show (k - 317) + 320 = k + 3 by omega]
                simp only [Option.bind_some, payoffref02_Adjust.j3]
                have hs := sm_month d u c3.1 c3.2 (by omega) (by omega)
                by_cases c8 : 12 * (dateV u).1 + (dateV u).2.1 = 12 * (dateV d).1 + (dateV d).2.1
                · rw [if_neg (by simpa using c8)]
                  simp only [payoffref02_Adjust.j4]
                  rw [if_neg c5, if_pos c6, J5, hs.2 c8, decide_eq_false (by omega)]
                  simp [c5]
                · rw [if_pos (by simpa using c8)]
                  simp only [payoffref02_Adjust.j4]
                  have hs2 : sm d u = false := by
                    cases hq : sm d u with
                    | false => rfl
                    | true => exact absurd (hs.1 hq) c8
                  rw [if_neg c5, if_pos c6, J5, hs2, decide_eq_true (by omega)]
                  simp [c6]
              · rw [if_neg c7]
                obtain rfl : u = -1 := by omega
                simp only [payoffref02_Adjust.j3, payoffref02_Adjust.j4, Bool.false_eq_true, if_false]
                rw [if_neg c5, if_pos c6, J5, sm_none, decide_eq_true (by omega)]
                simp [c6]
            · rw [if_neg c6]
              simp only [payoffref02_Adjust.j3, payoffref02_Adjust.j4, Bool.false_eq_true, if_false]
              rw [if_neg c5, if_neg c6, J5]
              simp [c5, c6]
      · rw [if_pos c3]
        by_cases c7 : d < 0
        · rw [if_pos c7]; simp [payoffref02_Adjust.j1]
        · rw [if_neg c7, decide_eq_true (by omega)]; simp [payoffref02_Adjust.j1]

theorem same_loop (l : List Int) (hl : l.length ≤ 4611686018427387904) : ∀ (n k i : Nat), i + n = l.length → n < k → payofflaw02_sameInts.l0 k l l (i : Int) = some true := by
  intro n
  induction n with
  | zero =>
    intro k i hi hk
    obtain ⟨k, rfl⟩ : ∃ m, k = m + 1 := ⟨k - 1, by omega⟩
    simp only [payofflaw02_sameInts.l0]; rw [if_neg (by omega)]
  | succ n ih =>
    intro k i hi hk
    obtain ⟨k, rfl⟩ : ∃ m, k = m + 1 := ⟨k - 1, by omega⟩
    simp only [payofflaw02_sameInts.l0]
    rw [if_pos (by omega), if_pos (by omega), if_pos (by omega), if_pos trivial, wq64 _ (by omega) (by omega), show ((i : Int) + 1) = ((i + 1 : Nat) : Int) by omega]
    exact ih k (i + 1) (by omega) (by omega)
theorem same_eq (l : List Int) (hl : l.length ≤ 4611686018427387904) (k : Nat) (hk : l.length < k) : payofflaw02_sameInts.f k l l = some true := by
  unfold payofflaw02_sameInts.f
  rw [if_pos rfl]
  exact same_loop l hl l.length k 0 (by omega) hk

end Go.Proofs.YtdebllinaffceaaDoor.Plain
