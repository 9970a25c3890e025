/- For any two numbers, any list of holidays and any two numbers that tell where to leave and where to go over the days again: the days that Between gives are the document's, also when they are left early, gone over inside themselves and gone over again; the list that was handed in is as it was behind the call, also behind its end, and what is written over it later does not matter. The list reads as before. The list takes at most the memory that the row's sized condition names. No other condition. -/
import Derived.Test.YtdebllinaffceaaHandWalks
import Derived.Test.YtdebllinaffceaaPlainT
namespace Go.Proofs.Ytdebllinaffceaa.Plain
open Go.RowKit Go.Proofs.Ytdebllinaffceaa.M Go.Proofs.YtdebllinaffceaaW.PrintWords Go.Proofs.YtdebllinaffceaaW.PrintLast
theorem rbus_loop (l : List Int) (a : Int) (hl : l.length ≤ 4611686018427387904) : ∀ (n k i : Nat), i + n = l.length → n < k →
    payoffref02_Business.l0 k a l (i : Int) = some (decide (a ∉ l.drop i)) := by
  intro n
  induction n with
  | zero =>
    intro k i hi hk
    obtain ⟨k, rfl⟩ : ∃ m, k = m + 1 := ⟨k - 1, by omega⟩
    simp only [payoffref02_Business.l0]; rw [if_neg (by omega), List.drop_eq_nil_of_le (by omega)]; simp
  | succ n ih =>
    intro k i hi hk
    obtain ⟨k, rfl⟩ : ∃ m, k = m + 1 := ⟨k - 1, by omega⟩
    simp only [payoffref02_Business.l0]
    rw [if_pos (by omega), if_pos (by omega), rd_drop l i (by omega)]
    by_cases c : rd l (i : Int) = a
    · rw [if_pos c, c]; simp
    · rw [if_neg c, wq64 _ (by omega) (by omega), show ((i : Int) + 1) = ((i + 1 : Nat) : Int) by omega, ih k (i + 1) (by omega) (by omega)]
      congr 1
      rw [decide_eq_decide, List.mem_cons]
      exact ⟨fun h h2 => h2.elim (fun h3 => c h3.symm) h, fun h h2 => h (.inr h2)⟩

theorem rbusiness_eq (l : List Int) (d : Int) (hl : l.length ≤ 4611686018427387904) (k : Nat) (hk : l.length + 1 < k) : payoffref02_Business.f k d l = some (bus d l) := by
  obtain ⟨k, rfl⟩ : ∃ m, k = m + 1 := ⟨k - 1, by omega⟩
  have L := rbus_loop l d hl l.length k 0 (by omega) (by omega)
  rw [show ((0 : Nat) : Int) = 0 from rfl, List.drop_zero] at L
  unfold payoffref02_Business.f
  by_cases c1 : d < 0
  · rw [if_pos c1, bus_no _ _ (by omega)]; simp [payoffref02_Business.j0]
  · rw [if_neg c1]
    by_cases c2 : d ≥ 109573
    · rw [if_pos c2, bus_no _ _ (by omega)]; simp [payoffref02_Business.j0]
    · rw [if_neg c2, Int.tmod_eq_emod_of_nonneg (by omega)]
      by_cases c3 : d % 7 > 4
      · rw [decide_eq_true c3]; simp only [payoffref02_Business.j0, if_true]; unfold bus; rw [decide_eq_false (by omega)]
      · rw [decide_eq_false c3]; simp only [payoffref02_Business.j0, Bool.false_eq_true, if_false]; rw [L]
        unfold bus
        congr 1
        rw [decide_eq_decide]
        exact ⟨fun h => ⟨by omega, by omega, by omega, h⟩, fun h => h.2.2.2⟩

theorem same_loop (l : List Int) (hl : l.length ≤ 4611686018427387904) : ∀ (n k i : Nat), i + n = l.length → n < k → payofflaw02_sameInts.l0 k l l (i : Int) = some true := by
  intro n
  induction n with
  | zero =>
    intro k i hi hk
    obtain ⟨k, rfl⟩ : ∃ m, k = m + 1 := ⟨k - 1, by omega⟩
    simp only [payofflaw02_sameInts.l0]; rw [if_neg (by omega)]
  | succ n ih =>
    intro k i hi hk
    obtain ⟨k, rfl⟩ : ∃ m, k = m + 1 := ⟨k - 1, by omega⟩
    simp only [payofflaw02_sameInts.l0]
    rw [if_pos (by omega), if_pos (by omega), if_pos (by omega), if_pos trivial, wq64 _ (by omega) (by omega), show ((i : Int) + 1) = ((i + 1 : Nat) : Int) by omega]
    exact ih k (i + 1) (by omega) (by omega)
theorem same_eq (l : List Int) (hl : l.length ≤ 4611686018427387904) (k : Nat) (hk : l.length < k) : payofflaw02_sameInts.f k l l = some true := by
  unfold payofflaw02_sameInts.f
  rw [if_pos rfl]
  exact same_loop l hl l.length k 0 (by omega) hk


theorem rbetween_loop (l : List Int) (hl : l.length ≤ 17592186044000) (lim : Int) (hlim : lim ≤ 109573) : ∀ (n k : Nat) (d : Int) (o : List Int), 0 ≤ d → n = (lim - d).toNat → o.length + n ≤ 1000000 → n + l.length + 2 < k → payoffref02_Between.l0 k lim l o d = some (o ++ span l n d)
  | n, 0, _, _, _, _, _, hk => by omega
  | 0, k + 1, d, o, h0, hn, ho, hk => by
    unfold payoffref02_Between.l0
    rw [if_neg (by omega)]
    simp [span]
  | n + 1, k + 1, d, o, h0, hn, ho, hk => by
    unfold payoffref02_Between.l0
    rw [if_pos (by omega), rbusiness_eq l d (by omega) k (by omega), Option.bind_some, wq64 (d + 1) (by omega) (by omega)]
    unfold span
    by_cases hb : bus d l = true
    · rw [if_pos hb, if_pos hb, if_pos (by omega), rbetween_loop l hl lim hlim n k (d + 1) (o ++ [d]) (by omega) (by omega) (by simp; omega) (by omega)]
      simp
    · rw [if_neg hb, if_neg hb]
      exact rbetween_loop l hl lim hlim n k (d + 1) o (by omega) (by omega) (by omega) (by omega)
theorem rbetween_eq (l : List Int) (hl : l.length ≤ 17592186044000) (a c : Int) (k : Nat) (hk : 109590 + l.length < k) : payoffref02_Between.f k a c l = some (span l (many c (if a < 0 then 0 else a)) (if a < 0 then 0 else a)) := by
  obtain ⟨k, rfl⟩ : ∃ m, k = m + 2 := ⟨k - 2, by omega⟩
  have key : ∀ a0 : Int, 0 ≤ a0 → payoffref02_Between.j0 (k + 2) a0 c l = some (span l (many c a0) a0) := by
    intro a0 h0
    have hm := many_le c a0 h0
    have e : payoffref02_Between.j0 (k + 1 + 1) a0 c l = if c > 109573 then payoffref02_Between.j1 (k + 1) a0 109573 l else payoffref02_Between.j1 (k + 1) a0 c l := by
      rw [payoffref02_Between.j0]
    rw [show k + 2 = k + 1 + 1 from rfl, e]
    by_cases hc : c > 109573
    · rw [if_pos hc]
      unfold payoffref02_Between.j1
      have := rbetween_loop l hl 109573 (by omega) (many c a0) k a0 [] h0 (by unfold many; omega) (by simp; omega) (by omega)
      simpa using this
    · rw [if_neg hc]
      unfold payoffref02_Between.j1
      have := rbetween_loop l hl c (by omega) (many c a0) k a0 [] h0 (by unfold many; omega) (by simp; omega) (by omega)
      simpa using this
  unfold payoffref02_Between.f
  by_cases ha : a < 0
  · rw [if_pos ha, if_pos ha]; exact key 0 (by omega)
  · rw [if_neg ha, if_neg ha]; exact key a (by omega)

theorem walks_all (a b : Int) (A : Option Addr) (c3 : Nat) (l : List Int) (sp inn : Int) (w : World) (hr : Kd.C (Kd.int .i64) w A l.length l) (hc3 : l.length ≤ c3) (hl : l.length ≤ 17592186044000) :
    Calls Try.prog 4 #[.int .i64 a, .int .i64 b, .slice A l.length c3, .int .i64 sp, .int .i64 inn] w fun e w' => e = .returned (.bool true) ∧ Below w.heap.size w w' := by
  obtain ⟨K, hK⟩ : ∃ K, K = 110000 + l.length := ⟨_, rfl⟩
  have a0 : (0 : Int) ≤ if a < 0 then 0 else a := by by_cases h : a < 0 <;> simp [h] <;> omega
  have ma := many_le b _ a0
  have hs := span_len l (many b (if a < 0 then 0 else a)) (if a < 0 then 0 else a)
  exact walks_good K a b A c3 l sp inn _ w hr hc3 (by omega) (own_eq l hl K (by omega)) (by unfold payofflaw02_intact.f; rw [same_eq l (by omega) K (by omega)]; rfl) (rbetween_eq l hl a b K (by omega)) (if a < 0 then 0 else a) rfl (upto_eq l (by omega) b _ K _ a0 rfl (by omega)) (by omega)
end Go.Proofs.Ytdebllinaffceaa.Plain
