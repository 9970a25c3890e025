/- Which days are business days; the iterator's days are the business days of its span; the list 'own' is the list it was made of. Of lists no longer than a machine holds. -/
import Derived.Test.YtdebllinaffceaaHandTilesA
namespace Go.Proofs.Ytdebllinaffceaa.Plain
open Go.RowKit Go.Proofs.Ytdebllinaffceaa.M Go.Proofs.YtdebllinaffceaaW.PrintWords Go.Proofs.YtdebllinaffceaaW.PrintLast
theorem inside_eq (a : Int) : cal_inside.f a = some (decide (0 ≤ a ∧ a ≤ 109572)) := by
  unfold cal_inside.f
  by_cases h : a ≥ 0
  · rw [if_pos h]; congr 1; rw [decide_eq_decide]; omega
  · rw [if_neg h]; congr 1; rw [eq_comm, decide_eq_false_iff_not]; omega

theorem wq64 (x : Int) (h : -9223372036854775808 ≤ x) (h2 : x ≤ 9223372036854775807) : wrap64 x = x := by unfold wrap64; omega

/-- Is a day a business day? -/
def bus (d : Int) (l : List Int) : Bool := decide (0 ≤ d ∧ d ≤ 109572 ∧ d % 7 < 5 ∧ d ∉ l)
theorem bus_iff (d : Int) (l : List Int) : bus d l = true ↔ 0 ≤ d ∧ d ≤ 109572 ∧ d % 7 < 5 ∧ d ∉ l := by unfold bus; rw [decide_eq_true_iff]
theorem bus_no (d : Int) (l : List Int) (h : ¬ (0 ≤ d ∧ d ≤ 109572)) : bus d l = false := by unfold bus; rw [decide_eq_false_iff_not]; omega

theorem rd_drop (l : List Int) (i : Nat) (h : i < l.length) : l.drop i = rd l (i : Int) :: l.drop (i + 1) := by
  rw [List.drop_eq_getElem_cons h]; unfold rd
  rw [Int.toNat_natCast, List.getD_eq_getElem?_getD, List.getElem?_eq_getElem h]; rfl

theorem index_eq (l : List Int) (a : Int) (hl : l.length ≤ 4611686018427387904) : ∀ (n k i : Nat), i + n = l.length → n < k →
    ∃ r, slices_Index_int_int.l0 k l a (l.length : Int) (i : Int) = some r ∧ (r ≥ 0 ↔ a ∈ l.drop i) := by
  intro n
  induction n with
  | zero =>
    intro k i hi hk
    obtain ⟨k, rfl⟩ : ∃ m, k = m + 1 := ⟨k - 1, by omega⟩
    refine ⟨-1, ?_, ?_⟩
    · simp only [slices_Index_int_int.l0]; rw [if_neg (by omega)]
    · rw [List.drop_eq_nil_of_le (by omega)]; simp
  | succ n ih =>
    intro k i hi hk
    obtain ⟨k, rfl⟩ : ∃ m, k = m + 1 := ⟨k - 1, by omega⟩
    simp only [slices_Index_int_int.l0]
    rw [if_pos (by omega), if_pos (by omega), if_pos (by omega), rd_drop l i (by omega)]
    by_cases c : a = rd l (i : Int)
    · rw [if_pos c]; exact ⟨_, rfl, fun _ => by rw [c]; exact List.mem_cons_self, fun _ => by omega⟩
    · rw [if_neg c, wq64 _ (by omega) (by omega), show ((i : Int) + 1) = ((i + 1 : Nat) : Int) by omega]
      obtain ⟨r, h1, h2⟩ := ih k (i + 1) (by omega) (by omega)
      refine ⟨r, h1, h2.trans ?_⟩
      rw [List.mem_cons]
      exact ⟨.inr, fun h => h.resolve_left c⟩

theorem contains_eq (l : List Int) (a : Int) (hl : l.length ≤ 4611686018427387904) (k : Nat) (hk : l.length < k) : slices_Contains_int_int.f k l a = some (decide (a ∈ l)) := by
  obtain ⟨r, h1, h2⟩ := index_eq l a hl l.length k 0 (by omega) hk
  unfold slices_Contains_int_int.f slices_Index_int_int.f
  rw [show ((0 : Nat) : Int) = 0 from rfl] at h1
  rw [h1]
  simp only [Option.bind_some, Option.some.injEq]
  rw [decide_eq_decide]
  simpa using h2

theorem business_eq (l : List Int) (d : Int) (hl : l.length ≤ 4611686018427387904) (k : Nat) (hk : l.length < k) : cal_Business.f k d l = some (bus d l) := by
  unfold cal_Business.f
  rw [inside_eq]
  simp only [Option.bind_some, decide_eq_true_eq]
  by_cases c : 0 ≤ d ∧ d ≤ 109572
  · rw [if_pos c, Int.tmod_eq_emod_of_nonneg c.1]
    by_cases c2 : d % 7 < 5
    · rw [if_pos c2, contains_eq l d hl k hk]
      simp only [Option.bind_some, Option.some.injEq]
      unfold bus
      by_cases c3 : d ∈ l
      · simp [c3]
      · simp [c3, c, c2]
    · rw [if_neg c2]; unfold bus; rw [decide_eq_false (by omega)]
  · rw [if_neg c, bus_no _ _ c]

theorem own_loop (l : List Int) (hl : l.length ≤ 4611686018427387904) : ∀ (n k i : Nat) (b : List Int), i + n = l.length → n < k → b.length = l.length + 2 → b.take i = l.take i →
    payofflaw02_own.l0 k l b (i : Int) = some l := by
  intro n
  induction n with
  | zero =>
    intro k i b hi hk hb ht
    obtain ⟨k, rfl⟩ : ∃ m, k = m + 1 := ⟨k - 1, by omega⟩
    obtain rfl : i = l.length := by omega
    simp only [payofflaw02_own.l0]
    rw [if_neg (by omega), if_pos (by omega), if_pos (by omega), wq64 _ (by omega) (by omega), if_pos (by omega), if_pos (by omega), if_pos (by omega)]
    congr 1
    rw [Int.toNat_natCast, List.take_set_of_le (by omega), List.take_set_of_le (by omega), ht, List.take_length]
  | succ n ih =>
    intro k i b hi hk hb ht
    obtain ⟨k, rfl⟩ : ∃ m, k = m + 1 := ⟨k - 1, by omega⟩
    simp only [payofflaw02_own.l0]
    rw [if_pos (by omega), if_pos (by omega), if_pos (by omega), wq64 _ (by omega) (by omega), show ((i : Int) + 1) = ((i + 1 : Nat) : Int) by omega]
    refine ih k (i + 1) _ (by omega) (by omega) (by rw [List.length_set]; exact hb) ?_
    rw [Int.toNat_natCast, List.take_add_one, List.take_add_one, List.take_set_of_le (Nat.le_refl _), ht]
    congr 1
    rw [List.getElem?_set_self (by omega), List.getElem?_eq_getElem (by omega)]
    unfold rd
    rw [Int.toNat_natCast, List.getD_eq_getElem?_getD, List.getElem?_eq_getElem (by omega)]
    rfl
theorem own_eq (l : List Int) (hl : l.length ≤ 17592186044000) (k : Nat) (hk : l.length < k) : payofflaw02_own.f k l = some l := by
  unfold payofflaw02_own.f
  rw [wq64 _ (by omega) (by omega), if_pos (by omega), if_pos (by omega)]
  exact own_loop l (by omega) l.length k 0 _ (by omega) hk (by rw [List.length_replicate]; omega) (by simp)


/-- The business days among n days from one on. -/
def span (l : List Int) : Nat → Int → List Int
  | 0, _ => []
  | n + 1, d => if bus d l = true then d :: span l n (d + 1) else span l n (d + 1)
theorem span_mem (l : List Int) : ∀ (n : Nat) (d x : Int), x ∈ span l n d → d ≤ x ∧ x < d + n ∧ bus x l = true
  | 0, _, _, h => by simp [span] at h
  | n + 1, d, x, h => by
    unfold span at h
    by_cases hb : bus d l = true
    · rw [if_pos hb] at h
      rcases List.mem_cons.1 h with rfl | h
      · exact ⟨Int.le_refl _, by omega, hb⟩
      · obtain ⟨h1, h2, h3⟩ := span_mem l n _ _ h
        exact ⟨by omega, by omega, h3⟩
    · rw [if_neg hb] at h
      obtain ⟨h1, h2, h3⟩ := span_mem l n _ _ h
      exact ⟨by omega, by omega, h3⟩
theorem span_len (l : List Int) : ∀ (n : Nat) (d : Int), (span l n d).length ≤ n
  | 0, _ => by simp [span]
  | n + 1, d => by
    have := span_len l n (d + 1)
    unfold span
    by_cases hb : bus d l = true
    · rw [if_pos hb]; simp only [List.length_cons]; omega
    · rw [if_neg hb]; omega
theorem span_add (l : List Int) (m : Nat) : ∀ (n : Nat) (d : Int), span l (n + m) d = span l n d ++ span l m (d + n)
  | 0, d => by simp [span]
  | n + 1, d => by
    have e : n + 1 + m = (n + m) + 1 := by omega
    have e2 : d + 1 + (n : Int) = d + ((n + 1 : Nat) : Int) := by omega
    rw [e]
    show (if bus d l = true then d :: span l (n + m) (d + 1) else span l (n + m) (d + 1)) = (if bus d l = true then d :: span l n (d + 1) else span l n (d + 1)) ++ _
    rw [span_add l m n (d + 1), e2]
    by_cases hb : bus d l = true
    · rw [if_pos hb, if_pos hb]; rfl
    · rw [if_neg hb, if_neg hb]
/-- How many days of the calendar lie from one on, up to lim. -/
def many (lim d : Int) : Nat := (min lim 109573 - d).toNat
theorem upto_eq (l : List Int) (hl : l.length ≤ 4611686018427387904) (lim : Int) : ∀ (n k : Nat) (d : Int), 0 ≤ d → n = many lim d → n + l.length + 1 < k → cal_walk.upto k l lim d = some (span l n d)
  | n, 0, _, _, _, hk => by omega
  | 0, k + 1, d, h0, hn, hk => by
    unfold many at hn
    unfold cal_walk.upto
    rw [inside_eq]
    by_cases hi : 0 ≤ d ∧ d ≤ 109572
    · rw [decide_eq_true hi, Option.bind_some, if_pos rfl, if_neg (by omega)]; rfl
    · rw [decide_eq_false hi, Option.bind_some, if_neg (by decide)]; rfl
  | n + 1, k + 1, d, h0, hn, hk => by
    have hm : many lim (d + 1) = n := by unfold many at hn ⊢; omega
    unfold many at hn
    unfold cal_walk.upto
    rw [inside_eq, decide_eq_true (show 0 ≤ d ∧ d ≤ 109572 by omega), Option.bind_some, if_pos rfl, if_pos (by omega), business_eq l d hl k (by omega), Option.bind_some, wq64 _ (by omega) (by omega), upto_eq l hl lim n k (d + 1) (by omega) hm.symm (by omega), Option.bind_some]
    rfl
theorem many_two (l : List Int) {a b c : Int} (hab : a ≤ b) (hbc : b ≤ c) :
    span l (many c (if a < 0 then 0 else a)) (if a < 0 then 0 else a) = span l (many b (if a < 0 then 0 else a)) (if a < 0 then 0 else a) ++ span l (many c (if b < 0 then 0 else b)) (if b < 0 then 0 else b) := by
  generalize ha : (if a < 0 then 0 else a) = a0
  generalize hb : (if b < 0 then 0 else b) = b0
  have ha0 : (a < 0 ∧ a0 = 0) ∨ (0 ≤ a ∧ a0 = a) := by by_cases h : a < 0 <;> simp [h] at ha <;> omega
  have hb0 : (b < 0 ∧ b0 = 0) ∨ (0 ≤ b ∧ b0 = b) := by by_cases h : b < 0 <;> simp [h] at hb <;> omega
  by_cases h1 : b ≤ a0
  · have e1 : many b a0 = 0 := by unfold many; omega
    have e2 : b0 = a0 := by omega
    rw [e1, e2]; simp [span]
  · by_cases h2 : 109573 ≤ b
    · have e1 : many b a0 = many c a0 := by unfold many; omega
      have e2 : many c b0 = 0 := by unfold many; omega
      rw [e1, e2]; simp [span]
    · have e1 : many c a0 = many b a0 + many c b0 := by unfold many; omega
      have e2 : a0 + (many b a0 : Int) = b0 := by unfold many; omega
      rw [e1, span_add, e2]
theorem many_le (lim d : Int) (h : 0 ≤ d) : many lim d ≤ 109573 := by unfold many; omega

theorem missing_loop (l zs : List Int) (hl : l.length ≤ 17592186044000) (hz : zs.length ≤ 17592186044000) (lim : Int) (hlim : lim ≤ 109573) : ∀ (n k : Nat) (j : Nat) (d : Int), 0 ≤ d → n = (lim - d).toNat → j ≤ zs.length → zs.drop j = span l n d → n + l.length + 1 < k → payofflaw02_missing.l0 k lim zs l (j : Int) d = some true
  | n, 0, _, _, _, _, _, _, hk => by omega
  | 0, k + 1, j, d, h0, hn, hj, hd, hk => by
    unfold payofflaw02_missing.l0
    rw [if_neg (by omega)]
  | n + 1, k + 1, j, d, h0, hn, hj, hd, hk => by
    unfold payofflaw02_missing.l0
    rw [if_pos (by omega), own_eq l hl k (by omega), Option.bind_some, business_eq l d (by omega) k (by omega), Option.bind_some, wq64 (d + 1) (by omega) (by omega)]
    unfold span at hd
    by_cases hb : bus d l = true
    · rw [if_pos hb] at hd ⊢
      have hjl : j < zs.length := by
        apply Classical.byContradiction
        intro h
        rw [List.drop_eq_nil_of_le (by omega)] at hd
        cases hd
      rw [rd_drop zs j hjl] at hd
      obtain ⟨h1, h2⟩ := List.cons.inj hd
      rw [if_neg (by omega), if_pos (by omega), if_pos (by omega), if_pos h1, wq64 _ (by omega) (by omega)]
      have := missing_loop l zs hl hz lim hlim n k (j + 1) (d + 1) (by omega) (by omega) (by omega) h2 (by omega)
      simpa using this
    · rw [if_neg hb] at hd ⊢
      exact missing_loop l zs hl hz lim hlim n k j (d + 1) (by omega) (by omega) hj hd (by omega)
theorem missing_eq (l : List Int) (hl : l.length ≤ 17592186044000) (a c : Int) (k : Nat) (hk : 109580 + l.length < k) : payofflaw02_missing.f k a c (span l (many c (if a < 0 then 0 else a)) (if a < 0 then 0 else a)) l = some true := by
  obtain ⟨k, rfl⟩ : ∃ m, k = m + 2 := ⟨k - 2, by omega⟩
  have key : ∀ a0 : Int, 0 ≤ a0 → payofflaw02_missing.j0 (k + 2) a0 c (span l (many c a0) a0) l = some true := by
    intro a0 h0
    have hlen := span_len l (many c a0) a0
    have hm := many_le c a0 h0
    have e : payofflaw02_missing.j0 (k + 1 + 1) a0 c (span l (many c a0) a0) l = if c > 109573 then payofflaw02_missing.j1 (k + 1) a0 109573 (span l (many c a0) a0) l else payofflaw02_missing.j1 (k + 1) a0 c (span l (many c a0) a0) l := by
      rw [payofflaw02_missing.j0]
    rw [show k + 2 = k + 1 + 1 from rfl, e]
    by_cases hc : c > 109573
    · rw [if_pos hc]
      unfold payofflaw02_missing.j1
      exact missing_loop l _ hl (by omega) 109573 (by omega) (many c a0) k 0 a0 h0 (by unfold many; omega) (by omega) (by simp) (by omega)
    · rw [if_neg hc]
      unfold payofflaw02_missing.j1
      exact missing_loop l _ hl (by omega) c (by omega) (many c a0) k 0 a0 h0 (by unfold many; omega) (by omega) (by simp) (by omega)
  unfold payofflaw02_missing.f
  by_cases ha : a < 0
  · rw [if_pos ha, if_pos ha]; exact key 0 (by omega)
  · rw [if_neg ha, if_neg ha]; exact key a (by omega)
end Go.Proofs.Ytdebllinaffceaa.Plain
