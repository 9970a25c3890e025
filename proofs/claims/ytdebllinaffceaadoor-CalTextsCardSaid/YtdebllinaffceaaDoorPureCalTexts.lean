/- For any date cal.Text and the document's Text answer the same text and the same error, and for any text cal.Parse and the document's Parse the same date and the same error. The arguments read as before. The package-level table cal.months is tied to the program's text. No other condition. -/
import Derived.Test.YtdebllinaffceaaDoorPlainG
import Derived.Test.YtdebllinaffceaaDoorMPayofflaw02CalTexts
namespace Go.Proofs.YtdebllinaffceaaDoor.Pure
open Go.RowKit Go.Proofs.YtdebllinaffceaaDoor.M Go.Proofs.YtdebllinaffceaaDoor.Plain Go.Proofs.YtdebllinaffceaaDoorW.PrintWords Go.Proofs.YtdebllinaffceaaDoorW.PrintLast

theorem ba_ext {a b : ByteArray} (h : a.data.toList = b.data.toList) : a = b := by
  cases a; cases b; congr 1; exact Array.toList_inj.1 h
theorem ba_app (a b : ByteArray) : (a ++ b).data.toList = a.data.toList ++ b.data.toList := by simp
theorem son_app (a b : List Int) : strOfNums (a ++ b) = strOfNums a ++ strOfNums b := by
  apply ba_ext; rw [ba_app, strOfNums_data, strOfNums_data, strOfNums_data, List.map_append]
theorem son_hyphen : (⟨#[45]⟩ : ByteArray) = strOfNums [45] := by apply ba_ext; rfl
theorem app_nil (a : ByteArray) : a ++ (⟨#[]⟩ : ByteArray) = a := by apply ba_ext; rw [ba_app]; simp

theorem rdigits (j : Nat) : ∀ (k : Nat) (n : Int) (s : ByteArray) (i w : Int), 0 ≤ n → n ≤ 1000000 → 0 ≤ i → w ≤ 100 → w - i = j → j < k → s.size + j ≤ 1000 →
    payoffref02_digits.l0 k n w s i = some (strOfNums (digs n j) ++ s) := by
  induction j with
  | zero =>
    intro k n s i w h0 h1 hi hw hj hk hs
    obtain ⟨k, rfl⟩ : ∃ m, k = m + 1 := ⟨k - 1, by omega⟩
    simp only [payoffref02_digits.l0]
    rw [if_neg (by omega)]; congr 1
  | succ j ih =>
    intro k n s i w h0 h1 hi hw hj hk hs
    obtain ⟨k, rfl⟩ : ∃ m, k = m + 1 := ⟨k - 1, by omega⟩
    simp only [payoffref02_digits.l0]
    rw [if_pos (by omega), Int.tmod_eq_emod_of_nonneg h0, Int.tdiv_eq_ediv_of_nonneg h0, wr64 (48 + n % 10) (by omega) (by omega), wr64 (n / 10) (by omega) (by omega), wr64 (i + 1) (by omega) (by omega)]
    have e2 : (48 + n % 10) % 256 = 48 + n % 10 := by omega
    rw [e2]; simp only [Option.bind_some]
    have sz : (strOfNums [48 + n % 10]).size = 1 := by rw [strOfNums_size]; rfl
    rw [if_pos (by rw [sz]; omega), ih k (n / 10) _ (i + 1) w (by omega) (by omega) (by omega) (by omega) (by omega) (by omega) (by rw [ByteArray.size_append, sz]; omega)]
    congr 1
    show _ = strOfNums (digs (n / 10) j ++ [48 + n % 10]) ++ s
    rw [son_app]
    apply ba_ext; simp only [ba_app, List.append_assoc]

theorem rdig (k : Nat) (n : Int) (j : Nat) (h0 : 0 ≤ n) (h1 : n ≤ 1000000) (hj : j ≤ 10) : payoffref02_digits.f (k + 20) n j = some (strOfNums (digs n j)) := by
  unfold payoffref02_digits.f
  rw [rdigits j (k + 20) n _ 0 j h0 h1 (by omega) (by omega) (by omega) (by omega) (by have : (⟨#[]⟩ : ByteArray).size = 0 := rfl; omega), app_nil]

theorem rtext_in (k : Nat) (y m d : Int) (h : ok y m d = true) : payoffref02_Text.f (k + 20) y m d = some (strOfNums (dtext y m d), 0) := by
  have o := (ok_iff _ _ _).1 h
  have l := len_pos y m
  unfold payoffref02_Text.f
  rw [is_eq (k + 18), h]; simp only [Option.bind_some, if_true]
  rw [show ((4 : Int)) = ((4 : Nat) : Int) from rfl, rdig k y 4 (by omega) (by omega) (by omega), show ((2 : Int)) = ((2 : Nat) : Int) from rfl, rdig k m 2 (by omega) (by omega) (by omega), rdig k d 2 (by omega) (by omega) (by omega)]
  simp only [Option.bind_some]
  have s4 : (strOfNums (digs y 4)).size = 4 := by rw [strOfNums_size, digs_len]
  have s2 : (strOfNums (digs m 2)).size = 2 := by rw [strOfNums_size, digs_len]
  have s3 : (strOfNums (digs d 2)).size = 2 := by rw [strOfNums_size, digs_len]
  have s1 : (⟨#[45]⟩ : ByteArray).size = 1 := rfl
  rw [if_pos (by omega), if_pos (by simp only [ByteArray.size_append]; omega), if_pos (by simp only [ByteArray.size_append]; omega), if_pos (by simp only [ByteArray.size_append]; omega)]
  unfold dtext
  rw [son_app, son_app, son_app, son_app, son_hyphen]

theorem rtext_out (k : Nat) (y m d : Int) (h : ok y m d = false) : payoffref02_Text.f (k + 2) y m d = some (⟨#[]⟩, 21) := by
  unfold payoffref02_Text.f
  rw [is_eq, h]; simp

/-- The bytes of a string, from one on. -/
def tl (s : ByteArray) (i : Int) : Nat → List Int
  | 0 => []
  | n + 1 => bt s i :: tl s (i + 1) n

theorem rnumber (n : Nat) : ∀ (k : Nat) (s : ByteArray) (x i : Int), (s.size : Int) = i + n → 0 ≤ i → n + i ≤ 10 → n < k → 0 ≤ x → x + 1 ≤ 10 ^ (10 - n) → payoffref02_number.l0 k s x i = some (numV (tl s i n) x) := by
  induction n with
  | zero =>
    intro k s x i hs h0 h1 hk _ _
    obtain ⟨k, rfl⟩ : ∃ m, k = m + 1 := ⟨k - 1, by omega⟩
    simp only [payoffref02_number.l0]
    rw [if_neg (by omega)]; rfl
  | succ n ih =>
    intro k s x i hs h0 h1 hk hx0 hx1
    obtain ⟨k, rfl⟩ : ∃ m, k = m + 1 := ⟨k - 1, by omega⟩
    simp only [payoffref02_number.l0]
    rw [if_pos (by omega), if_pos h0]
    show _ = some (numV (bt s i :: tl s (i + 1) n) x)
    by_cases g1 : bt s i < 48
    · rw [if_pos g1]; simp only [numV]; rw [if_neg (by omega)]
    · rw [if_neg g1]
      by_cases g2 : bt s i > 57
      · rw [if_pos g2]; simp only [numV]; rw [if_neg (by omega)]
      · rw [if_neg g2]
        have e10 : (10 : Int) ^ (10 - n) = 10 * 10 ^ (10 - (n + 1)) := by
          rw [show 10 - n = (10 - (n + 1)) + 1 by omega, Int.pow_succ, Int.mul_comm]
        have p10 : (10 : Int) ^ (10 - (n + 1)) ≤ 10 ^ 10 := by
          have : n ≤ 9 := by omega
          rcases (show n = 0 ∨ n = 1 ∨ n = 2 ∨ n = 3 ∨ n = 4 ∨ n = 5 ∨ n = 6 ∨ n = 7 ∨ n = 8 ∨ n = 9 by omega) with h | h | h | h | h | h | h | h | h | h <;> subst h <;> decide
        have e0 : (bt s i - 48) % 256 = bt s i - 48 := by omega
        rw [e0, wr64 (10 * x) (by omega) (by omega), wr64 _ (by omega) (by omega), wr64 (i + 1) (by omega) (by omega)]
        rw [numV_good _ _ _ (by omega)]
        exact ih k s (10 * x + (bt s i - 48)) (i + 1) (by omega) (by omega) (by omega) (by omega) (by omega) (by omega)

theorem bt_extract (s : ByteArray) (a b : Nat) (j : Int) (h0 : 0 ≤ j) (h : a + j < b) (hb : b ≤ s.size) : bt (s.extract a b) j = bt s (a + j) := by
  obtain ⟨j, rfl⟩ := Int.eq_ofNat_of_zero_le h0
  have h1 : (j : Int).toNat < (s.extract a b).size := by rw [ByteArray.size_extract]; omega
  have h2 : ((a : Int) + (j : Int)).toNat < s.size := by omega
  have e : ((a : Int) + (j : Int)).toNat = a + j := by omega
  unfold bt
  rw [dif_pos h1, dif_pos h2]
  congr 2
  simp only [ByteArray.getElem_extract, Int.toNat_natCast, e]

theorem rnum (k : Nat) (s : ByteArray) (a b n : Nat) (hb : b ≤ s.size) (hn : b = a + n) (h10 : n ≤ 10) : payoffref02_number.f (k + 12) (s.extract a b) = some (numV (tl (s.extract a b) 0 n) 0) := by
  unfold payoffref02_number.f
  have p10 : (1 : Int) ≤ 10 ^ (10 - n) := by
    rcases (show n = 0 ∨ n = 1 ∨ n = 2 ∨ n = 3 ∨ n = 4 ∨ n = 5 ∨ n = 6 ∨ n = 7 ∨ n = 8 ∨ n = 9 ∨ n = 10 by omega) with h | h | h | h | h | h | h | h | h | h | h <;> subst h <;> decide
  exact rnumber n (k + 12) _ 0 0 (by rw [ByteArray.size_extract]; omega) (by omega) (by omega) (by omega) (by omega) (by omega)

theorem rparse_eq (k : Nat) (s : ByteArray) : payoffref02_Parse.f (k + 20) s = some (parseA s) := by
  unfold payoffref02_Parse.f parseA
  have no : payoffref02_Parse.j0 (k + 20) s true = some (0, 0, 0, 21) := by simp [payoffref02_Parse.j0]
  by_cases h : (s.size : Int) = 10
  · have hs : s.size = 10 := by omega
    rw [if_pos h, if_pos (by omega)]
    by_cases h4 : bt s 4 = 45
    · rw [if_pos h4, if_pos (by omega)]
      by_cases h7 : bt s 7 = 45
      · rw [if_pos ⟨hs, h4, h7⟩, h7]
        simp only [payoffref02_Parse.j0, bne_self_eq_false, Bool.false_eq_true, if_false]
        rw [if_pos (show (4 : Int) ≤ (s.size : Int) by omega), rnum (k + 7) s 0 4 4 (by omega) (by omega) (by omega)]
        simp only [Option.bind_some]
        rw [if_pos (show (7 : Int) ≤ (s.size : Int) by omega), rnum (k + 7) s 5 7 2 (by omega) (by omega) (by omega)]
        simp only [Option.bind_some]
        rw [if_pos (show (8 : Int) ≤ (s.size : Int) by omega), rnum (k + 7) s 8 s.size 2 (by omega) (by omega) (by omega)]
        simp only [Option.bind_some, tl]
        rw [bt_extract s 0 4 0 (by omega) (by omega) (by omega), bt_extract s 0 4 (0 + 1) (by omega) (by omega) (by omega), bt_extract s 0 4 (0 + 1 + 1) (by omega) (by omega) (by omega), bt_extract s 0 4 (0 + 1 + 1 + 1) (by omega) (by omega) (by omega),
          bt_extract s 5 7 0 (by omega) (by omega) (by omega), bt_extract s 5 7 (0 + 1) (by omega) (by omega) (by omega), bt_extract s 8 s.size 0 (by omega) (by omega) (by omega), bt_extract s 8 s.size (0 + 1) (by omega) (by omega) (by omega)]
        rw [is_eq (k + 17)]; simp only [Option.bind_some]
        show (if ok (numV [bt s 0, bt s 1, bt s 2, bt s 3] 0) (numV [bt s 5, bt s 6] 0) (numV [bt s 8, bt s 9] 0) = true then some (numV [bt s 0, bt s 1, bt s 2, bt s 3] 0, numV [bt s 5, bt s 6] 0, numV [bt s 8, bt s 9] 0, (0 : Int)) else some (0, 0, 0, 21)) = some (parseV s)
        unfold parseV
        by_cases hh : ok (numV [bt s 0, bt s 1, bt s 2, bt s 3] 0) (numV [bt s 5, bt s 6] 0) (numV [bt s 8, bt s 9] 0) = true
        · rw [if_pos hh, if_pos hh]
        · rw [if_neg hh, if_neg hh]
      · rw [bne_iff_ne.2 h7, if_neg (by omega), no]
    · rw [if_neg h4, if_neg (by omega), no]
  · rw [if_neg h, if_neg (by omega), no]

theorem CalTexts (a0_0 a0_1 a0_2 : Int) (a1 : ByteArray) (_ : (Lit.int .i64 a0_0).wf = true) (_ : (Lit.int .i64 a0_1).wf = true) (_ : (Lit.int .i64 a0_2).wf = true) (_ : a1.size ≤ 140737488351232) :
    ∃ k, payofflaw02_CalTexts.f k a0_0 a0_1 a0_2 a1 = some true := by
  refine ⟨0 + 20, ?_⟩
  unfold payofflaw02_CalTexts.f
  rw [parse_eq, rparse_eq 0]
  cases h : ok a0_0 a0_1 a0_2 with
  | true => rw [text_in 10 _ _ _ h, rtext_in 0 _ _ _ h]; simp
  | false => rw [text_out _ _ _ _ h, rtext_out 18 _ _ _ h]; simp

end Go.Proofs.YtdebllinaffceaaDoor.Pure
