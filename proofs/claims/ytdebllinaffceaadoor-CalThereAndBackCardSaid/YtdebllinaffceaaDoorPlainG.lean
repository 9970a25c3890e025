/- Texts of dates: what the two functions Text and the two functions Parse compute. -/
import Derived.Test.YtdebllinaffceaaDoorPlainC
import Derived.Test.YtdebllinaffceaaDoorMCalText
import Derived.Test.YtdebllinaffceaaDoorMCalParse
namespace Go.Proofs.YtdebllinaffceaaDoor.Plain
open Go.RowKit Go.Proofs.YtdebllinaffceaaDoor.M Go.Proofs.YtdebllinaffceaaDoorW.PrintWords Go.Proofs.YtdebllinaffceaaDoorW.PrintLast

/-- The last digits of a number. -/
def digs (n : Int) : Nat → List Int
  | 0 => []
  | w + 1 => digs (n / 10) w ++ [48 + n % 10]
theorem digs_len (w : Nat) : ∀ n, (digs n w).length = w := by
  induction w with
  | zero => intro n; rfl
  | succ w ih => intro n; simp [digs, ih]

theorem wr64 (x : Int) (h : -9223372036854775808 ≤ x) (h2 : x ≤ 9223372036854775807) : wrap64 x = x := by unfold wrap64; omega

theorem cdigits (w : Nat) : ∀ (k : Nat) (l : List Int) (n : Int), 0 ≤ n → n ≤ 1000000 → w < k → w ≤ 100 → l.length + w ≤ 1000 → cal_digits.f k l n ((w : Int) + 1) = some (l ++ digs n (w + 1)) := by
  induction w with
  | zero =>
    intro k l n h0 h1 hk _ hl
    obtain ⟨k, rfl⟩ : ∃ j, k = j + 1 := ⟨k - 1, by omega⟩
    simp only [cal_digits.f]
    rw [if_neg (by omega), if_pos (by omega), Int.tmod_eq_emod_of_nonneg h0, wr64 _ (by omega) (by omega)]
    congr 2
    simp only [digs, List.nil_append]; congr 1; omega
  | succ w ih =>
    intro k l n h0 h1 hk hw hl
    obtain ⟨k, rfl⟩ : ∃ j, k = j + 1 := ⟨k - 1, by omega⟩
    simp only [cal_digits.f]
    rw [if_pos (by omega), Int.tmod_eq_emod_of_nonneg h0, Int.tdiv_eq_ediv_of_nonneg h0, wr64 (n / 10) (by omega) (by omega), wr64 _ (by omega) (by omega)]
    have e : ((w + 1 : Nat) : Int) + 1 - 1 = (w : Int) + 1 := by omega
    rw [e, ih k l (n / 10) (by omega) (by omega) (by omega) (by omega) (by omega)]
    simp only [Option.bind_some]
    rw [if_pos (by rw [List.length_append, digs_len]; omega), wr64 _ (by omega) (by omega)]
    have e2 : (48 + n % 10) % 256 = 48 + n % 10 := by omega
    rw [e2, List.append_assoc]; rfl

/-- A date's text. -/
def dtext (y m d : Int) : List Int := digs y 4 ++ [45] ++ digs m 2 ++ [45] ++ digs d 2

theorem text_in (k : Nat) (y m d : Int) (h : ok y m d = true) : cal_Text.f (k + 10) y m d = some (strOfNums (dtext y m d), 0) := by
  have o := (ok_iff _ _ _).1 h
  have l := len_pos y m
  unfold cal_Text.f
  rw [exists_eq, h]; simp only [Option.bind_some, if_true]
  have e1 := cdigits 3 (k + 10) [] y (by omega) (by omega) (by omega) (by omega) (by simp)
  have e2 := cdigits 1 (k + 10) (digs y 4 ++ [45]) m (by omega) (by omega) (by omega) (by omega) (by simp [digs_len])
  have e3 := cdigits 1 (k + 10) (digs y 4 ++ [45] ++ digs m 2 ++ [45]) d (by omega) (by omega) (by omega) (by omega) (by simp [digs_len])
  rw [show ((4 : Int)) = ((3 : Nat) : Int) + 1 from rfl, e1]; simp only [Option.bind_some, List.nil_append]
  rw [if_pos (by rw [digs_len]; omega), show ((2 : Int)) = ((1 : Nat) : Int) + 1 from rfl, e2]; simp only [Option.bind_some]
  rw [if_pos (by simp [digs_len]), e3]; rfl

theorem text_out (k : Nat) (y m d : Int) (h : ok y m d = false) : cal_Text.f k y m d = some (⟨#[]⟩, 21) := by
  unfold cal_Text.f
  rw [exists_eq, h]; simp

/-- The number that a row of bytes spells; -1: it spells none. -/
def numV : List Int → Int → Int
  | [], a => a
  | c :: t, a => if 48 ≤ c ∧ c ≤ 57 then numV t (10 * a + (c - 48)) else -1
theorem numV_good (c : Int) (t : List Int) (a : Int) (h : 48 ≤ c ∧ c ≤ 57) : numV (c :: t) a = numV t (10 * a + (c - 48)) := by simp only [numV]; rw [if_pos h]
theorem numV_bad : ∀ (l : List Int) (a : Int), (∃ c ∈ l, ¬ (48 ≤ c ∧ c ≤ 57)) → numV l a = -1
  | [], _, h => by obtain ⟨c, hc, _⟩ := h; cases hc
  | x :: t, a, h => by
    simp only [numV]
    by_cases hx : 48 ≤ x ∧ x ≤ 57
    · rw [if_pos hx]
      refine numV_bad t _ ?_
      obtain ⟨c, hc, hn⟩ := h
      rcases List.mem_cons.1 hc with rfl | hc
      · exact absurd hx hn
      · exact ⟨c, hc, hn⟩
    · rw [if_neg hx]

/-- What Parse tells of a text of ten bytes with its two hyphens. -/
def parseV (s : ByteArray) : Int × Int × Int × Int :=
  if ok (numV [bt s 0, bt s 1, bt s 2, bt s 3] 0) (numV [bt s 5, bt s 6] 0) (numV [bt s 8, bt s 9] 0) = true then (numV [bt s 0, bt s 1, bt s 2, bt s 3] 0, numV [bt s 5, bt s 6] 0, numV [bt s 8, bt s 9] 0, 0) else (0, 0, 0, 21)

theorem ok_neg (y m d : Int) (h : y = -1 ∨ m = -1 ∨ d = -1) : ok y m d = false := by
  unfold ok; rw [decide_eq_false_iff_not]; omega

theorem parseV_bad (s : ByteArray) (j : Int) (hj : j = 0 ∨ j = 1 ∨ j = 2 ∨ j = 3 ∨ j = 5 ∨ j = 6 ∨ j = 8 ∨ j = 9) (h : ¬ (48 ≤ bt s j ∧ bt s j ≤ 57)) : parseV s = (0, 0, 0, 21) := by
  unfold parseV
  rw [if_neg]
  rw [Bool.not_eq_true]
  refine ok_neg _ _ _ ?_
  rcases hj with rfl | rfl | rfl | rfl | rfl | rfl | rfl | rfl
  · exact .inl (numV_bad _ _ ⟨_, by simp, h⟩)
  · exact .inl (numV_bad _ _ ⟨_, by simp, h⟩)
  · exact .inl (numV_bad _ _ ⟨_, by simp, h⟩)
  · exact .inl (numV_bad _ _ ⟨_, by simp, h⟩)
  · exact .inr (.inl (numV_bad _ _ ⟨_, by simp, h⟩))
  · exact .inr (.inl (numV_bad _ _ ⟨_, by simp, h⟩))
  · exact .inr (.inr (numV_bad _ _ ⟨_, by simp, h⟩))
  · exact .inr (.inr (numV_bad _ _ ⟨_, by simp, h⟩))

theorem g_sep (s : ByteArray) (n : Nat) (i p a b c : Int) (hi : (9 : Int) - n = i) (h : i = 4 ∨ i = 7) : cal_Parse.g s (n + 1) p a b c = cal_Parse.g s n (p + 1) a b c := by
  simp only [cal_Parse.g]; rw [hi]
  by_cases h4 : i = 4
  · rw [if_pos h4]
  · rw [if_neg h4, if_pos (by omega)]
theorem g_bad (s : ByteArray) (n : Nat) (i p a b c : Int) (hi : (9 : Int) - n = i) (h : ¬ (i = 4 ∨ i = 7)) (hb : ¬ (48 ≤ bt s i ∧ bt s i ≤ 57)) : cal_Parse.g s (n + 1) p a b c = some (0, 0, 0, 21) := by
  simp only [cal_Parse.g]; rw [hi, if_neg (by omega), if_neg (by omega)]
  by_cases h4 : bt s i < 48
  · rw [if_pos h4]
  · rw [if_neg h4, if_pos (by omega)]
theorem g_dig (s : ByteArray) (n : Nat) (i p a b c : Int) (hi : (9 : Int) - n = i) (h : ¬ (i = 4 ∨ i = 7)) (hb : 48 ≤ bt s i ∧ bt s i ≤ 57) (hp : p = 0 ∨ p = 1 ∨ p = 2) (ha : 0 ≤ a ∧ a ≤ 100000) (hbb : 0 ≤ b ∧ b ≤ 100000) (hc : 0 ≤ c ∧ c ≤ 100000) :
    cal_Parse.g s (n + 1) p a b c = cal_Parse.g s n p (if p = 0 then 10 * a + (bt s i - 48) else a) (if p = 1 then 10 * b + (bt s i - 48) else b) (if p = 2 then 10 * c + (bt s i - 48) else c) := by
  simp only [cal_Parse.g]; rw [hi, if_neg (by omega), if_neg (by omega), if_neg (by omega), if_neg (by omega)]
  rcases hp with rfl | rfl | rfl
  · rw [if_pos rfl, if_pos rfl, if_neg (by omega), if_neg (by omega), wr64 (10 * a) (by omega) (by omega), wr64 _ (by omega) (by omega)]
  · rw [if_neg (by omega), if_pos rfl, if_neg (by omega), if_pos rfl, if_neg (by omega), wr64 (10 * b) (by omega) (by omega), wr64 _ (by omega) (by omega)]
  · rw [if_neg (by omega), if_neg (by omega), if_pos rfl, if_neg (by omega), if_neg (by omega), if_pos rfl, wr64 (10 * c) (by omega) (by omega), wr64 _ (by omega) (by omega)]

theorem g_all (s : ByteArray) : cal_Parse.g s 10 0 0 0 0 = some (parseV s) := by
  by_cases d0 : 48 ≤ bt s 0 ∧ bt s 0 ≤ 57
  · by_cases d1 : 48 ≤ bt s 1 ∧ bt s 1 ≤ 57
    · by_cases d2 : 48 ≤ bt s 2 ∧ bt s 2 ≤ 57
      · by_cases d3 : 48 ≤ bt s 3 ∧ bt s 3 ≤ 57
        · rw [g_dig s 9 0 0 _ _ _ (by omega) (by omega) d0 (by omega) (by omega) (by omega) (by omega)]
          simp only [if_true, show ¬ ((0 : Int) = 1) by omega, show ¬ ((0 : Int) = 2) by omega, if_false]
          rw [g_dig s 8 1 0 _ _ _ (by omega) (by omega) d1 (by omega) (by omega) (by omega) (by omega)]
          simp only [if_true, show ¬ ((0 : Int) = 1) by omega, show ¬ ((0 : Int) = 2) by omega, if_false]
          rw [g_dig s 7 2 0 _ _ _ (by omega) (by omega) d2 (by omega) (by omega) (by omega) (by omega)]
          simp only [if_true, show ¬ ((0 : Int) = 1) by omega, show ¬ ((0 : Int) = 2) by omega, if_false]
          rw [g_dig s 6 3 0 _ _ _ (by omega) (by omega) d3 (by omega) (by omega) (by omega) (by omega)]
          simp only [if_true, show ¬ ((0 : Int) = 1) by omega, show ¬ ((0 : Int) = 2) by omega, if_false]
          rw [g_sep s 5 4 _ _ _ _ (by omega) (by omega), show ((0 : Int) + 1) = 1 by omega]
          by_cases d5 : 48 ≤ bt s 5 ∧ bt s 5 ≤ 57
          · by_cases d6 : 48 ≤ bt s 6 ∧ bt s 6 ≤ 57
            · rw [g_dig s 4 5 1 _ _ _ (by omega) (by omega) d5 (by omega) (by omega) (by omega) (by omega)]
              simp only [if_true, show ¬ ((1 : Int) = 0) by omega, show ¬ ((1 : Int) = 2) by omega, if_false]
              rw [g_dig s 3 6 1 _ _ _ (by omega) (by omega) d6 (by omega) (by omega) (by omega) (by omega)]
              simp only [if_true, show ¬ ((1 : Int) = 0) by omega, show ¬ ((1 : Int) = 2) by omega, if_false]
              rw [g_sep s 2 7 _ _ _ _ (by omega) (by omega), show ((1 : Int) + 1) = 2 by omega]
              by_cases d8 : 48 ≤ bt s 8 ∧ bt s 8 ≤ 57
              · by_cases d9 : 48 ≤ bt s 9 ∧ bt s 9 ≤ 57
                · rw [g_dig s 1 8 2 _ _ _ (by omega) (by omega) d8 (by omega) (by omega) (by omega) (by omega)]
                  simp only [if_true, show ¬ ((2 : Int) = 0) by omega, show ¬ ((2 : Int) = 1) by omega, if_false]
                  rw [g_dig s 0 9 2 _ _ _ (by omega) (by omega) d9 (by omega) (by omega) (by omega) (by omega)]
                  simp only [if_true, show ¬ ((2 : Int) = 0) by omega, show ¬ ((2 : Int) = 1) by omega, if_false]
                  simp only [cal_Parse.g]
                  have eY : numV [bt s 0, bt s 1, bt s 2, bt s 3] 0 = 10 * (10 * (10 * (10 * 0 + (bt s 0 - 48)) + (bt s 1 - 48)) + (bt s 2 - 48)) + (bt s 3 - 48) := by
                    rw [numV_good _ _ _ d0, numV_good _ _ _ d1, numV_good _ _ _ d2, numV_good _ _ _ d3]; rfl
                  have eM : numV [bt s 5, bt s 6] 0 = 10 * (10 * 0 + (bt s 5 - 48)) + (bt s 6 - 48) := by
                    rw [numV_good _ _ _ d5, numV_good _ _ _ d6]; rfl
                  have eD : numV [bt s 8, bt s 9] 0 = 10 * (10 * 0 + (bt s 8 - 48)) + (bt s 9 - 48) := by
                    rw [numV_good _ _ _ d8, numV_good _ _ _ d9]; rfl
                  unfold parseV
                  rw [eY, eM, eD, exists_eq]; simp only [Option.bind_some]
                  generalize 10 * (10 * (10 * (10 * 0 + (bt s 0 - 48)) + (bt s 1 - 48)) + (bt s 2 - 48)) + (bt s 3 - 48) = Y
                  generalize 10 * (10 * 0 + (bt s 5 - 48)) + (bt s 6 - 48) = M
                  generalize 10 * (10 * 0 + (bt s 8 - 48)) + (bt s 9 - 48) = D
                  by_cases hh : ok Y M D = true
                  · rw [if_pos hh, if_pos hh]
                  · rw [if_neg hh, if_neg hh]
                · rw [g_dig s 1 8 2 _ _ _ (by omega) (by omega) d8 (by omega) (by omega) (by omega) (by omega), g_bad s 0 9 _ _ _ _ (by omega) (by omega) d9, parseV_bad s 9 (by omega) d9]
              · rw [g_bad s 1 8 _ _ _ _ (by omega) (by omega) d8, parseV_bad s 8 (by omega) d8]
            · rw [g_dig s 4 5 1 _ _ _ (by omega) (by omega) d5 (by omega) (by omega) (by omega) (by omega), g_bad s 3 6 _ _ _ _ (by omega) (by omega) d6, parseV_bad s 6 (by omega) d6]
          · rw [g_bad s 4 5 _ _ _ _ (by omega) (by omega) d5, parseV_bad s 5 (by omega) d5]
        · rw [g_dig s 9 0 0 _ _ _ (by omega) (by omega) d0 (by omega) (by omega) (by omega) (by omega)]
          simp only [if_true, show ¬ ((0 : Int) = 1) by omega, show ¬ ((0 : Int) = 2) by omega, if_false]
          rw [g_dig s 8 1 0 _ _ _ (by omega) (by omega) d1 (by omega) (by omega) (by omega) (by omega)]
          simp only [if_true, show ¬ ((0 : Int) = 1) by omega, show ¬ ((0 : Int) = 2) by omega, if_false]
          rw [g_dig s 7 2 0 _ _ _ (by omega) (by omega) d2 (by omega) (by omega) (by omega) (by omega), g_bad s 6 3 _ _ _ _ (by omega) (by omega) d3, parseV_bad s 3 (by omega) d3]
      · rw [g_dig s 9 0 0 _ _ _ (by omega) (by omega) d0 (by omega) (by omega) (by omega) (by omega)]
        simp only [if_true, show ¬ ((0 : Int) = 1) by omega, show ¬ ((0 : Int) = 2) by omega, if_false]
        rw [g_dig s 8 1 0 _ _ _ (by omega) (by omega) d1 (by omega) (by omega) (by omega) (by omega), g_bad s 7 2 _ _ _ _ (by omega) (by omega) d2, parseV_bad s 2 (by omega) d2]
    · rw [g_dig s 9 0 0 _ _ _ (by omega) (by omega) d0 (by omega) (by omega) (by omega) (by omega), g_bad s 8 1 _ _ _ _ (by omega) (by omega) d1, parseV_bad s 1 (by omega) d1]
  · rw [g_bad s 9 0 _ _ _ _ (by omega) (by omega) d0, parseV_bad s 0 (by omega) d0]

/-- What Parse tells of any text. -/
def parseA (s : ByteArray) : Int × Int × Int × Int := if s.size = 10 ∧ bt s 4 = 45 ∧ bt s 7 = 45 then parseV s else (0, 0, 0, 21)

theorem parse_eq (s : ByteArray) : cal_Parse.f s = some (parseA s) := by
  unfold cal_Parse.f parseA
  by_cases h : (s.size : Int) = 10
  · rw [if_pos h]
    by_cases h4 : bt s 4 = 45
    · rw [if_pos h4]; unfold cal_Parse.j0
      by_cases h7 : bt s 7 = 45
      · rw [h7, if_neg (by decide), if_pos ⟨by omega, h4, rfl⟩, g_all]
      · rw [if_pos (bne_iff_ne.2 h7), if_neg (by omega)]
    · rw [if_neg h4, if_neg (by omega)]; rfl
  · rw [if_neg h, if_neg (by omega)]; rfl

end Go.Proofs.YtdebllinaffceaaDoor.Plain
