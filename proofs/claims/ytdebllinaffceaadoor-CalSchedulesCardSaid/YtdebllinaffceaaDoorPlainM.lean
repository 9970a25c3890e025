/- The dates from one on, tenor by tenor: they rise; adjusted days do, too. Lists of holidays as numbers. -/
import Derived.Test.YtdebllinaffceaaDoorVWords
import Derived.Test.YtdebllinaffceaaDoorPlainH
import Derived.Test.YtdebllinaffceaaDoorPlainN
import Derived.Test.YtdebllinaffceaaDoorMCalSchedule
namespace Go.Proofs.YtdebllinaffceaaDoor.Plain
open Go.RowKit Go.Proofs.YtdebllinaffceaaDoor.M Go.Proofs.YtdebllinaffceaaDoorW.PrintWords Go.Proofs.YtdebllinaffceaaDoorW.PrintLast

/-- A date's number. -/
def numD (x : Int × Int × Int × Int) : Int := num x.1 x.2.1 x.2.2.1

/-- Where a month begins, by its count. -/
def mst (a : Int) : Int := bef (a / 12) + cum (a / 12) (a % 12 + 1)
theorem mst_succ (a : Int) : mst (a + 1) = mst a + len (a / 12) (a % 12 + 1) := by
  unfold mst
  by_cases c : a % 12 = 11
  · have e1 : (a + 1) / 12 = a / 12 + 1 := by omega
    have e2 : (a + 1) % 12 = 0 := by omega
    rw [e1, e2, c, bef_succ, ← cum_last]
    have := cum_succ (a / 12) 12 (by omega) (by omega)
    have f := cum_first (a / 12 + 1)
    have e3 : cum (a / 12) (12 + 1) = cum (a / 12) 13 := rfl
    have e4 : cum (a / 12) (11 + 1) = cum (a / 12) 12 := rfl
    have e5 : len (a / 12) (11 + 1) = len (a / 12) 12 := rfl
    have e6 : cum (a / 12 + 1) (0 + 1) = cum (a / 12 + 1) 1 := rfl
    omega
  · have e1 : (a + 1) / 12 = a / 12 := by omega
    have e2 : (a + 1) % 12 = a % 12 + 1 := by omega
    rw [e1, e2]
    have := cum_succ (a / 12) (a % 12 + 1) (by omega) (by omega)
    omega
theorem mst_le (a : Int) (n : Nat) : mst a + 28 * n ≤ mst (a + n) := by
  induction n with
  | zero => simp
  | succ n ih =>
    have := mst_succ (a + n)
    have := len_pos ((a + n) / 12) ((a + n) % 12 + 1)
    rw [show a + ((n + 1 : Nat) : Int) = a + n + 1 by omega]
    omega
theorem month_up (a b d : Int) (h : a < b) (hd : 1 ≤ d) (hb : (monthV b d).2.2.2 = 0) (h0 : 0 ≤ a ∧ ¬ a < 22800) :
    (monthV a d).2.2.2 = 0 ∧ numD (monthV a d) < numD (monthV b d) := by
  have hb2 : ¬ (b < 22800 ∨ 26400 ≤ b) := by
    intro q; unfold monthV at hb; rw [if_pos q] at hb; simp at hb
  have ha2 : ¬ (a < 22800 ∨ 26400 ≤ a) := by omega
  unfold monthV
  rw [if_neg hb2, if_neg ha2]
  refine ⟨rfl, ?_⟩
  have la := len_pos (a / 12) (a % 12 + 1)
  have lb := len_pos (b / 12) (b % 12 + 1)
  have m1 := mst_succ a
  have m2 := mst_le (a + 1) (b - (a + 1)).toNat
  rw [show a + 1 + ((b - (a + 1)).toNat : Int) = b by omega] at m2
  unfold numD num
  unfold mst at m1 m2
  simp only
  split <;> split <;> omega

/-- What is asked of the dates of a schedule. -/
structure Dates (D : Int → Int × Int × Int × Int) : Prop where
  ok : ∀ i, 0 ≤ i → (D i).2.2.2 = 0 → ok (D i).1 (D i).2.1 (D i).2.2.1 = true
  up : ∀ i, 0 ≤ i → (D (i + 1)).2.2.2 = 0 → (D i).2.2.2 = 0 ∧ numD (D i) < numD (D (i + 1))
theorem Dates.range {D : Int → Int × Int × Int × Int} (h : Dates D) (i : Int) (h0 : 0 ≤ i) (hc : (D i).2.2.2 = 0) : 0 ≤ numD (D i) ∧ numD (D i) ≤ 109572 := by
  have := num_in _ _ _ (h.ok i h0 hc)
  unfold numD; omega
theorem Dates.le {D : Int → Int × Int × Int × Int} (h : Dates D) : ∀ n : Nat, (D n).2.2.2 = 0 → (n : Int) ≤ numD (D n) := by
  intro n
  induction n with
  | zero => intro hc; have := h.range 0 (by omega) hc; simpa using this.1
  | succ n ih =>
    intro hc
    have := h.up n (by omega) (by rw [show ((n : Int) + 1) = ((n + 1 : Nat) : Int) by omega]; exact hc)
    have := ih this.1
    rw [show (((n + 1 : Nat)) : Int) = (n : Int) + 1 by omega]
    omega

theorem dateV_code (x : Int) : (dateV x).2.2.2 = 0 ↔ 0 ≤ x ∧ x ≤ 109572 := by
  by_cases h : 0 ≤ x ∧ x ≤ 109572
  · obtain ⟨y, m, d, e, -, -⟩ := dateV_in x h.1 h.2
    rw [e]; simp [h]
  · rw [dateV_out x h]; simp only [h, iff_false]; decide
theorem dateV_numD (x : Int) (h : 0 ≤ x ∧ x ≤ 109572) : numD (dateV x) = x ∧ ok (dateV x).1 (dateV x).2.1 (dateV x).2.2.1 = true := by
  obtain ⟨y, m, d, e, o, n⟩ := dateV_in x h.1 h.2
  rw [e]; exact ⟨n, o⟩

theorem addV_zero (y m d t u : Int) (ht : tenor t u = true) (ho : ok y m d = true) : addV y m d t u 0 = (y, m, d, 0) := by
  have o := (ok_iff _ _ _).1 ho
  have tt := (tenor_iff _ _).1 ht
  rw [addV_near _ _ _ _ _ _ ht ho (by omega)]
  have hm : monthV (12 * y + m - 1) d = (y, m, d, 0) := by
    unfold monthV
    rw [if_neg (by omega), show (12 * y + m - 1) / 12 = y by omega, show (12 * y + m - 1) % 12 + 1 = m by omega, if_neg (by omega)]
  simp only [Int.mul_zero, Int.add_zero]
  rw [hm, dateV_num y m d ho]
  split
  · rfl
  · split
    · rfl
    · split <;> rfl

theorem dates (y m d t u : Int) (ht : tenor t u = true) (ho : ok y m d = true) : Dates (addV y m d t u) := by
  have o := (ok_iff _ _ _).1 ho
  have tt := (tenor_iff _ _).1 ht
  have mok : ∀ a, (monthV a d).2.2.2 = 0 → ok (monthV a d).1 (monthV a d).2.1 (monthV a d).2.2.1 = true := by
    intro a hc
    have ha : ¬ (a < 22800 ∨ 26400 ≤ a) := by
      intro q; unfold monthV at hc; rw [if_pos q] at hc; simp at hc
    have la := len_pos (a / 12) (a % 12 + 1)
    unfold monthV
    rw [if_neg ha]
    simp only
    rw [ok_iff]
    split <;> omega
  constructor
  · intro i h0 hc
    by_cases hi : 109572 < i ∨ i < -109572
    · rw [addV_far _ _ _ _ _ _ ht ho hi] at hc; simp at hc
    · rw [addV_near _ _ _ _ _ _ ht ho hi] at hc ⊢
      by_cases c1 : u = 1
      · rw [if_pos c1] at hc ⊢; exact (dateV_numD _ ((dateV_code _).1 hc)).2
      · rw [if_neg c1] at hc ⊢
        by_cases c2 : u = 2
        · rw [if_pos c2] at hc ⊢; exact (dateV_numD _ ((dateV_code _).1 hc)).2
        · rw [if_neg c2] at hc ⊢
          by_cases c3 : u = 4
          · rw [if_pos c3] at hc ⊢; exact mok _ hc
          · rw [if_neg c3] at hc ⊢; exact mok _ hc
  · intro i h0 hc
    by_cases hi : 109572 < i + 1 ∨ i + 1 < -109572
    · rw [addV_far _ _ _ _ _ _ ht ho hi] at hc; simp at hc
    · have hi2 : ¬ (109572 < i ∨ i < -109572) := by omega
      rw [addV_near _ _ _ _ _ _ ht ho hi] at hc ⊢
      rw [addV_near _ _ _ _ _ _ ht ho hi2]
      have nn := num_in _ _ _ ho
      have e1 : t * (i + 1) = t * i + t := by rw [Int.mul_add, Int.mul_one]
      have p1 : 0 ≤ t * i := Int.mul_nonneg (by omega) h0
      by_cases c1 : u = 1
      · rw [if_pos c1] at hc ⊢; rw [if_pos c1]
        have r := (dateV_code _).1 hc
        have r2 : 0 ≤ num y m d + t * i ∧ num y m d + t * i ≤ 109572 := by omega
        refine ⟨(dateV_code _).2 r2, ?_⟩
        rw [(dateV_numD _ r).1, (dateV_numD _ r2).1]; omega
      · rw [if_neg c1] at hc ⊢; rw [if_neg c1]
        by_cases c2 : u = 2
        · rw [if_pos c2] at hc ⊢; rw [if_pos c2]
          have r := (dateV_code _).1 hc
          have e7 : 7 * t * (i + 1) = 7 * (t * i) + 7 * t := by rw [Int.mul_add, Int.mul_one, Int.mul_assoc]
          have e8 : 7 * t * i = 7 * (t * i) := Int.mul_assoc _ _ _
          rw [e7] at r
          have r2 : 0 ≤ num y m d + 7 * t * i ∧ num y m d + 7 * t * i ≤ 109572 := by rw [e8]; omega
          have r3 : 0 ≤ num y m d + 7 * t * (i + 1) ∧ num y m d + 7 * t * (i + 1) ≤ 109572 := by rw [e7]; exact r
          refine ⟨(dateV_code _).2 r2, ?_⟩
          rw [(dateV_numD _ r2).1, (dateV_numD _ r3).1, e7, e8]; omega
        · rw [if_neg c2] at hc ⊢; rw [if_neg c2]
          by_cases c3 : u = 4
          · rw [if_pos c3] at hc ⊢; rw [if_pos c3]
            exact month_up _ _ d (by rw [e1]; omega) (by omega) hc (by omega)
          · rw [if_neg c3] at hc ⊢; rw [if_neg c3]
            exact month_up _ _ d (by rw [e1]; omega) (by omega) hc (by omega)

/-- What Adjust tells of a day. -/
def adjF (l : List Int) (c d : Int) : Int × Int := (cal_Adjust.f (110001 + l.length) d c l).getD (0, 1)
theorem adjF_eq (l : List Int) (hl : l.length ≤ 4611686018427387904) (k : Nat) (d c : Int) (hk : 110000 + l.length < k) : cal_Adjust.f k d c l = some (adjF l c d) := by
  obtain ⟨up, hu⟩ := up_ex l hl d
  obtain ⟨dn, hd⟩ := dn_ex l hl d
  unfold adjF
  rw [adj_eq l hl k d c up dn hu hd hk, adj_eq l hl _ d c up dn hu hd (by omega)]
  rfl
theorem adjF_val (l : List Int) (hl : l.length ≤ 4611686018427387904) (d c up dn : Int) (hu : 0 ≤ d → d ≤ 109572 → Up l d up) (hd : 0 ≤ d → d ≤ 109572 → Dn l d dn) : adjF l c d = adjV d c up dn := by
  unfold adjF
  rw [adj_eq l hl _ d c up dn hu hd (by omega)]; rfl

/-- An adjusted day's form. -/
theorem adjV_form (d c up dn : Int) (h0 : 0 ≤ d ∧ d ≤ 109572) (hc : ¬ (c < 0 ∨ 3 < c)) (h : (adjV d c up dn).2 = 0) :
    (c = 0 ∧ adjV d c up dn = (d, 0)) ∨ (c ≠ 0 ∧ (c = 3 ∨ (c = 2 ∧ sm d up = false)) ∧ 0 ≤ dn ∧ adjV d c up dn = (dn, 0)) ∨ (c ≠ 0 ∧ c ≠ 3 ∧ (c = 2 → sm d up = true) ∧ 0 ≤ up ∧ adjV d c up dn = (up, 0)) := by
  unfold adjV at h ⊢
  rw [if_neg hc, if_neg (show ¬¬(0 ≤ d ∧ d ≤ 109572) from fun q => q h0)] at h ⊢
  by_cases c0 : c = 0
  · rw [if_pos c0]; exact .inl ⟨c0, rfl⟩
  · rw [if_neg c0] at h ⊢
    by_cases c1 : c = 3 ∨ (c = 2 ∧ sm d up = false)
    · rw [if_pos c1] at h ⊢
      by_cases c2 : dn < 0
      · rw [if_pos c2] at h; simp at h
      · rw [if_neg c2]; exact .inr (.inl ⟨c0, c1, by omega, rfl⟩)
    · rw [if_neg c1] at h ⊢
      by_cases c2 : up < 0
      · rw [if_pos c2] at h; simp at h
      · rw [if_neg c2]
        refine .inr (.inr ⟨c0, fun q => c1 (.inl q), fun q => ?_, by omega, rfl⟩)
        cases hs : sm d up with
        | true => rfl
        | false => exact absurd (.inr ⟨q, hs⟩) c1

/-- A day between two of one month is of that month. -/
theorem sm_mid (a b x : Int) (h0 : 0 ≤ a) (h1 : a ≤ x) (h2 : x ≤ b) (h9 : b ≤ 109572) (h : sm a b = true) : sm x b = true := by
  obtain ⟨ya, ma, da, ea, oa, na⟩ := dateV_in a h0 (by omega)
  obtain ⟨yb, mb, db, eb, ob, nb⟩ := dateV_in b (by omega) h9
  obtain ⟨yx, mx, dx, ex, ox, nx⟩ := dateV_in x (by omega) (by omega)
  unfold sm at h ⊢
  rw [decide_eq_true_iff] at h ⊢
  rw [ea, eb] at h
  rw [ex, eb]
  obtain ⟨-, -, h3, h4⟩ := h
  simp only at h3 h4
  subst h3 h4
  refine ⟨rfl, rfl, ?_⟩
  have qa := num_in _ _ _ oa
  have qb := num_in _ _ _ ob
  have qx := num_in _ _ _ ox
  have ka := (ok_iff _ _ _).1 oa
  have kx := (ok_iff _ _ _).1 ox
  have hy : yx = ya := by
    by_cases c : yx < ya
    · have := bef_le (yx + 1) ya (by omega); omega
    · by_cases c2 : ya < yx
      · have := bef_le (ya + 1) yx (by omega); omega
      · omega
  subst hy
  have hm : mx = ma := by
    by_cases c : mx < ma
    · have := cum_mono yx (mx + 1) ma (by omega) (by omega) (by omega); omega
    · by_cases c2 : ma < mx
      · have := cum_mono yx (ma + 1) mx (by omega) (by omega) (by omega); omega
      · omega
  exact ⟨rfl, hm⟩

theorem adj_mono (l : List Int) (hl : l.length ≤ 4611686018427387904) (c d e : Int) (hc : ¬ (c < 0 ∨ 3 < c)) (h0 : 0 ≤ d) (hde : d ≤ e) (h9 : e ≤ 109572) (hd : (adjF l c d).2 = 0) (he : (adjF l c e).2 = 0) : (adjF l c d).1 ≤ (adjF l c e).1 := by
  obtain ⟨u, hu⟩ := up_ex l hl d
  obtain ⟨n, hn⟩ := dn_ex l hl d
  obtain ⟨u', hu'⟩ := up_ex l hl e
  obtain ⟨n', hn'⟩ := dn_ex l hl e
  rw [adjF_val l hl d c u n hu hn] at hd ⊢
  rw [adjF_val l hl e c u' n' hu' hn'] at he ⊢
  have U := hu h0 (by omega)
  have N := hn h0 (by omega)
  have U' := hu' (by omega) h9
  have N' := hn' (by omega) h9
  have ru := U.range
  have rn := N.range
  have ru' := U'.range
  have rn' := N'.range
  rcases adjV_form d c u n ⟨h0, by omega⟩ hc hd with ⟨c0, e1⟩ | ⟨c0, c1, p1, e1⟩ | ⟨c0, c1, c2, p1, e1⟩ <;>
    rcases adjV_form e c u' n' ⟨by omega, h9⟩ hc he with ⟨k0, e2⟩ | ⟨k0, k1, p2, e2⟩ | ⟨k0, k1, k2, p2, e2⟩ <;> rw [e1, e2] <;> simp only
  · exact hde
  · omega
  · omega
  · omega
  · -- both down
    rcases N with ⟨q, _⟩ | ⟨q1, q2, q3⟩
    · omega
    · rcases N' with ⟨q, _⟩ | ⟨s1, s2, s3⟩
      · omega
      · by_cases z : n ≤ n'
        · exact z
        · rw [s3 n (by omega) (by omega)] at q2; cases q2
  · omega
  · omega
  · -- up, then down: Modified alone
    rcases U with ⟨q, _⟩ | ⟨q1, q2, q3⟩
    · omega
    · by_cases z : u ≤ e
      · rcases N' with ⟨q, _⟩ | ⟨s1, s2, s3⟩
        · omega
        · by_cases z2 : u ≤ n'
          · exact z2
          · rw [s3 u (by omega) z] at q2; cases q2
      · exfalso
        have e3 : Up l e u := .inr ⟨by omega, q2, fun x hx hx2 => q3 x (by omega) hx2⟩
        obtain rfl := e3.one U'
        rcases k1 with k1 | ⟨k1, k3⟩
        · exact c1 k1
        · have := sm_mid d u e h0 hde (by omega) (by omega) (c2 k1)
          rw [this] at k3; cases k3
  · -- both up
    rcases U with ⟨q, _⟩ | ⟨q1, q2, q3⟩
    · omega
    · rcases U' with ⟨q, _⟩ | ⟨s1, s2, s3⟩
      · omega
      · by_cases z : u ≤ u'
        · exact z
        · rw [q3 u' (by omega) (by omega)] at s2; cases s2

/-- Holidays as numbers. -/
def nums (l : List S23) : List Int := l.map fun h => num h.f0 h.f1 h.f2
/-- Do all the dates exist? -/
def oks (l : List S23) : Bool := l.all fun h => ok h.f0 h.f1 h.f2
theorem rd23_drop (l : List S23) (i : Nat) (h : i < l.length) : l.drop i = rd_T23 l (i : Int) :: l.drop (i + 1) := by
  rw [List.drop_eq_getElem_cons h]; unfold rd_T23
  rw [Int.toNat_natCast, List.getD_eq_getElem?_getD, List.getElem?_eq_getElem h]; rfl
theorem nums_take (l : List S23) (i : Nat) (h : i < l.length) : nums (l.take (i + 1)) = nums (l.take i) ++ [num (rd_T23 l (i : Int)).f0 (rd_T23 l (i : Int)).f1 (rd_T23 l (i : Int)).f2] := by
  unfold nums
  rw [List.take_add_one, List.map_append, List.getElem?_eq_getElem h]
  unfold rd_T23
  rw [Int.toNat_natCast, List.getD_eq_getElem?_getD, List.getElem?_eq_getElem h]; rfl
theorem nums_len (l : List S23) : (nums l).length = l.length := by unfold nums; rw [List.length_map]

end Go.Proofs.YtdebllinaffceaaDoor.Plain
