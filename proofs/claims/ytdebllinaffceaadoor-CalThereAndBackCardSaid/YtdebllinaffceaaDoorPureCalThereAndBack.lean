/- For any number: if it is a day of the calendar, Date tells a date of which Day tells the number again, whose text has ten bytes and is read back as that date, and which is the day behind the date of the number before it (same month, a month's first, a year's first); number 0 is 1900-01-01; any other number has no date. The argument reads as before. The package-level table cal.months is tied to the program's text. No other condition. -/
import Derived.Test.YtdebllinaffceaaDoorPlainF
import Derived.Test.YtdebllinaffceaaDoorPlainG
import Derived.Test.YtdebllinaffceaaDoorMPayofflaw02CalThereAndBack
namespace Go.Proofs.YtdebllinaffceaaDoor.Pure
open Go.RowKit Go.Proofs.YtdebllinaffceaaDoor.M Go.Proofs.YtdebllinaffceaaDoor.Plain Go.Proofs.YtdebllinaffceaaDoorW.PrintWords Go.Proofs.YtdebllinaffceaaDoorW.PrintLast

theorem dtext_size (y m d : Int) : (strOfNums (dtext y m d)).size = 10 := by
  rw [strOfNums_size]; unfold dtext; simp [digs_len]

theorem digs4 (n : Int) : digs n 4 = [48 + n / 10 / 10 / 10 % 10, 48 + n / 10 / 10 % 10, 48 + n / 10 % 10, 48 + n % 10] := by
  simp [digs]
theorem digs2 (n : Int) : digs n 2 = [48 + n / 10 % 10, 48 + n % 10] := by
  simp [digs]

theorem next (y m d y' m' d' : Int) (h : ok y m d = true) (h' : ok y' m' d' = true) (e : num y m d = num y' m' d' + 1) :
    (y = y' ∧ m = m' ∧ d = d' + 1) ∨ (y = y' ∧ m = m' + 1 ∧ d = 1 ∧ 28 ≤ d') ∨ (y = y' + 1 ∧ m = 1 ∧ d = 1 ∧ m' = 12 ∧ d' = 31) := by
  have o' := (ok_iff _ _ _).1 h'
  have L := len_pos y' m'
  by_cases c1 : d' + 1 ≤ len y' m'
  · have q : ok y' m' (d' + 1) = true := (ok_iff _ _ _).2 (by omega)
    have := num_inj y m d y' m' (d' + 1) h q (by rw [e]; unfold num; omega)
    exact .inl this
  · by_cases c2 : m' < 12
    · have L2 := len_pos y' (m' + 1)
      have q : ok y' (m' + 1) 1 = true := (ok_iff _ _ _).2 (by omega)
      have cs := cum_succ y' m' (by omega) (by omega)
      have := num_inj y m d y' (m' + 1) 1 h q (by rw [e]; unfold num; omega)
      exact .inr (.inl (by omega))
    · obtain rfl : m' = 12 := by omega
      have cs := cum_succ y' 12 (by omega) (by omega)
      have cl := cum_last y'
      have l12 : len y' 12 = 31 := by unfold len; simp
      have bs := bef_succ y'
      have cf := cum_first (y' + 1)
      have e13 : cum y' (12 + 1) = cum y' 13 := rfl
      by_cases c3 : y' < 2199
      · have L2 := len_pos (y' + 1) 1
        have q : ok (y' + 1) 1 1 = true := (ok_iff _ _ _).2 (by omega)
        have := num_inj y m d (y' + 1) 1 1 h q (by rw [e]; unfold num; omega)
        exact .inr (.inr (by omega))
      · obtain rfl : y' = 2199 := by omega
        have n1 := num_in _ _ _ h
        have n2 : num 2199 12 d' = bef 2199 + cum 2199 12 + d' - 1 := rfl
        have bl := bef_last
        have : bef (2199 + 1) = bef 2200 := rfl
        omega

theorem bt_at_son (l : List Int) (i : Nat) (v : Int) (hv : l[i]? = some v) (h0 : 0 ≤ v) (h1 : v < 256) (j : Int) (hj : j = i) : bt (strOfNums l) j = v := by
  subst hj
  have hl : i < l.length := (List.getElem?_eq_some_iff.1 hv).1
  have hs : i < (strOfNums l).size := by rw [strOfNums_size]; exact hl
  unfold bt
  rw [dif_pos (by simpa using hs)]
  have e : (strOfNums l).data.toList[i]? = (l.map fun x => UInt8.ofNat x.toNat)[i]? := by rw [strOfNums_data]
  have e2 : (strOfNums l)[i]'hs = UInt8.ofNat v.toNat := by
    rw [List.getElem?_map, hv] at e
    have : (strOfNums l).data.toList[i]? = some ((strOfNums l)[i]'hs) := by
      rw [List.getElem?_eq_getElem (by simpa using hs)]; rfl
    rw [this] at e
    simpa using e
  simp only [Int.toNat_natCast]
  rw [e2]
  simp
  omega

theorem parse_back (y m d : Int) (h : ok y m d = true) : parseA (strOfNums (dtext y m d)) = (y, m, d, 0) := by
  have o := (ok_iff _ _ _).1 h
  have L := len_pos y m
  have e : dtext y m d = [48 + y / 10 / 10 / 10 % 10, 48 + y / 10 / 10 % 10, 48 + y / 10 % 10, 48 + y % 10, 45, 48 + m / 10 % 10, 48 + m % 10, 45, 48 + d / 10 % 10, 48 + d % 10] := by
    unfold dtext; rw [digs4, digs2, digs2]; rfl
  have b0 := bt_at_son (dtext y m d) 0 _ (by rw [e]; rfl) (by omega) (by omega) 0 rfl
  have b1 := bt_at_son (dtext y m d) 1 _ (by rw [e]; rfl) (by omega) (by omega) 1 rfl
  have b2 := bt_at_son (dtext y m d) 2 _ (by rw [e]; rfl) (by omega) (by omega) 2 rfl
  have b3 := bt_at_son (dtext y m d) 3 _ (by rw [e]; rfl) (by omega) (by omega) 3 rfl
  have b4 := bt_at_son (dtext y m d) 4 _ (by rw [e]; rfl) (by omega) (by omega) 4 rfl
  have b5 := bt_at_son (dtext y m d) 5 _ (by rw [e]; rfl) (by omega) (by omega) 5 rfl
  have b6 := bt_at_son (dtext y m d) 6 _ (by rw [e]; rfl) (by omega) (by omega) 6 rfl
  have b7 := bt_at_son (dtext y m d) 7 _ (by rw [e]; rfl) (by omega) (by omega) 7 rfl
  have b8 := bt_at_son (dtext y m d) 8 _ (by rw [e]; rfl) (by omega) (by omega) 8 rfl
  have b9 := bt_at_son (dtext y m d) 9 _ (by rw [e]; rfl) (by omega) (by omega) 9 rfl
  unfold parseA
  rw [if_pos ⟨dtext_size y m d, b4, b7⟩]
  unfold parseV
  have eY : numV [bt (strOfNums (dtext y m d)) 0, bt (strOfNums (dtext y m d)) 1, bt (strOfNums (dtext y m d)) 2, bt (strOfNums (dtext y m d)) 3] 0 = y := by
    rw [b0, b1, b2, b3, numV_good _ _ _ (by omega), numV_good _ _ _ (by omega), numV_good _ _ _ (by omega), numV_good _ _ _ (by omega)]; simp only [numV]; omega
  have eM : numV [bt (strOfNums (dtext y m d)) 5, bt (strOfNums (dtext y m d)) 6] 0 = m := by
    rw [b5, b6, numV_good _ _ _ (by omega), numV_good _ _ _ (by omega)]; simp only [numV]; omega
  have eD : numV [bt (strOfNums (dtext y m d)) 8, bt (strOfNums (dtext y m d)) 9] 0 = d := by
    rw [b8, b9, numV_good _ _ _ (by omega), numV_good _ _ _ (by omega)]; simp only [numV]; omega
  rw [eY, eM, eD, if_pos h]

theorem CalThereAndBack (a0 : Int) (_ : (Lit.int .i64 a0).wf = true) : ∃ k, payofflaw02_CalThereAndBack.f k a0 = some true := by
  refine ⟨701, ?_⟩
  unfold payofflaw02_CalThereAndBack.f
  rw [date_eq 381]
  by_cases h : 0 ≤ a0 ∧ a0 ≤ 109572
  · obtain ⟨y, m, d, e1, k1, n1⟩ := dateV_in a0 h.1 h.2
    have x1 : cal_Day.f 700 y m d = some (a0, 0) := by
      rw [show (700 : Nat) = 687 + 13 from rfl, day_eq]; unfold dayV; rw [if_pos k1, n1]
    have x2 : cal_Text.f 700 y m d = some (strOfNums (dtext y m d), 0) := text_in 690 y m d k1
    rw [e1]
    simp only [Option.bind_some]
    rw [if_neg (by omega), show decide (a0 > 109572) = false from decide_eq_false (by omega)]
    simp only [payofflaw02_CalThereAndBack.j0, Bool.false_eq_true, if_false]
    rw [x1, x2]
    simp only [Option.bind_some]
    rw [parse_eq, parse_back y m d k1]
    simp only [Option.bind_some, payofflaw02_num.f, if_true, beq_self_eq_true, Bool.not_true, Bool.or_self, Bool.false_eq_true, if_false]
    rw [if_pos (by rw [dtext_size]; rfl)]
    by_cases c : a0 = 0
    · rw [if_pos c]
      have q : ok 1900 1 1 = true := by decide
      have := num_inj y m d 1900 1 1 k1 q (by rw [n1, c]; decide)
      obtain ⟨rfl, rfl, rfl⟩ := this
      rfl
    · rw [if_neg c, wr64 _ (by omega) (by omega), show (700 : Nat) = 380 + 320 from rfl, date_eq]
      obtain ⟨y', m', d', e2, k2, n2⟩ := dateV_in (a0 - 1) (by omega) (by omega)
      rw [e2]
      have o2 := (ok_iff _ _ _).1 k2
      have L2 := len_pos y' m'
      simp only [Option.bind_some]
      rw [wr64 (y' + 1) (by omega) (by omega), wr64 (m' + 1) (by omega) (by omega), wr64 (d' + 1) (by omega) (by omega)]
      rcases next y m d y' m' d' k1 k2 (by omega) with ⟨rfl, rfl, rfl⟩ | ⟨rfl, rfl, rfl, h28⟩ | ⟨rfl, rfl, rfl, rfl, rfl⟩
      · rw [if_pos rfl, if_pos rfl, if_neg (by omega), if_neg (by omega), if_pos rfl, if_pos trivial]
      · rw [if_pos rfl, if_neg (by omega), if_pos rfl, if_pos rfl, if_neg (by omega), if_pos h28, if_pos trivial]
      · rw [if_neg (by omega), if_pos rfl, if_pos rfl, if_pos rfl, if_pos rfl]; rfl
  · rw [dateV_out a0 h]
    simp only [Option.bind_some]
    by_cases c : a0 < 0
    · rw [if_pos c]; simp [payofflaw02_CalThereAndBack.j0, payofflaw02_num.f]
    · rw [if_neg c, show decide (a0 > 109572) = true from decide_eq_true (by omega)]; simp [payofflaw02_CalThereAndBack.j0, payofflaw02_num.f]

end Go.Proofs.YtdebllinaffceaaDoor.Pure
