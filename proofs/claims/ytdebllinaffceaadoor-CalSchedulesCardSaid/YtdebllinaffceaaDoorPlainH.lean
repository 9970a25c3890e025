/- Business days and what Adjust makes of a day: what the given functions and the document's compute. -/
import Derived.Test.YtdebllinaffceaaDoorVWords
import Derived.Test.YtdebllinaffceaaDoorPlainK
import Derived.Test.YtdebllinaffceaaDoorMCalAdjust
namespace Go.Proofs.YtdebllinaffceaaDoor.Plain
open Go.RowKit Go.Proofs.YtdebllinaffceaaDoor.M Go.Proofs.YtdebllinaffceaaDoorW.PrintWords Go.Proofs.YtdebllinaffceaaDoorW.PrintLast

theorem wq64 (x : Int) (h : -9223372036854775808 ≤ x) (h2 : x ≤ 9223372036854775807) : wrap64 x = x := by unfold wrap64; omega

/-- Is a day a business day? -/
def bus (d : Int) (l : List Int) : Bool := decide (0 ≤ d ∧ d ≤ 109572 ∧ d % 7 < 5 ∧ d ∉ l)
theorem bus_iff (d : Int) (l : List Int) : bus d l = true ↔ 0 ≤ d ∧ d ≤ 109572 ∧ d % 7 < 5 ∧ d ∉ l := by unfold bus; rw [decide_eq_true_iff]
theorem bus_no (d : Int) (l : List Int) (h : ¬ (0 ≤ d ∧ d ≤ 109572)) : bus d l = false := by unfold bus; rw [decide_eq_false_iff_not]; omega

theorem rd_drop (l : List Int) (i : Nat) (h : i < l.length) : l.drop i = rd l (i : Int) :: l.drop (i + 1) := by
  rw [List.drop_eq_getElem_cons h]; unfold rd
  rw [Int.toNat_natCast, List.getD_eq_getElem?_getD, List.getElem?_eq_getElem h]; rfl

theorem index_eq (l : List Int) (a : Int) (hl : l.length ≤ 4611686018427387904) : ∀ (n k i : Nat), i + n = l.length → n < k →
    ∃ r, slices_Index_int_int.l0 k l a (l.length : Int) (i : Int) = some r ∧ (r ≥ 0 ↔ a ∈ l.drop i) := by
  intro n
  induction n with
  | zero =>
    intro k i hi hk
    obtain ⟨k, rfl⟩ : ∃ m, k = m + 1 := ⟨k - 1, by omega⟩
    refine ⟨-1, ?_, ?_⟩
    · simp only [slices_Index_int_int.l0]; rw [if_neg (by omega)]
    · rw [List.drop_eq_nil_of_le (by omega)]; simp
  | succ n ih =>
    intro k i hi hk
    obtain ⟨k, rfl⟩ : ∃ m, k = m + 1 := ⟨k - 1, by omega⟩
    simp only [slices_Index_int_int.l0]
    rw [if_pos (by omega), if_pos (by omega), if_pos (by omega), rd_drop l i (by omega)]
    by_cases c : a = rd l (i : Int)
    · rw [if_pos c]; exact ⟨_, rfl, fun _ => by rw [c]; exact List.mem_cons_self, fun _ => by omega⟩
    · rw [if_neg c, wq64 _ (by omega) (by omega), show ((i : Int) + 1) = ((i + 1 : Nat) : Int) by omega]
      obtain ⟨r, h1, h2⟩ := ih k (i + 1) (by omega) (by omega)
      refine ⟨r, h1, h2.trans ?_⟩
      rw [List.mem_cons]
      exact ⟨.inr, fun h => h.resolve_left c⟩

theorem contains_eq (l : List Int) (a : Int) (hl : l.length ≤ 4611686018427387904) (k : Nat) (hk : l.length < k) : slices_Contains_int_int.f k l a = some (decide (a ∈ l)) := by
  obtain ⟨r, h1, h2⟩ := index_eq l a hl l.length k 0 (by omega) hk
  unfold slices_Contains_int_int.f slices_Index_int_int.f
  rw [show ((0 : Nat) : Int) = 0 from rfl] at h1
  rw [h1]
  simp only [Option.bind_some, Option.some.injEq]
  rw [decide_eq_decide]
  simpa using h2

theorem business_eq (l : List Int) (d : Int) (hl : l.length ≤ 4611686018427387904) (k : Nat) (hk : l.length < k) : cal_Business.f k d l = some (bus d l) := by
  unfold cal_Business.f
  rw [inside_eq]
  simp only [Option.bind_some, decide_eq_true_eq]
  by_cases c : 0 ≤ d ∧ d ≤ 109572
  · rw [if_pos c, Int.tmod_eq_emod_of_nonneg c.1]
    by_cases c2 : d % 7 < 5
    · rw [if_pos c2, contains_eq l d hl k hk]
      simp only [Option.bind_some, Option.some.injEq]
      unfold bus
      by_cases c3 : d ∈ l
      · simp [c3]
      · simp [c3, c, c2]
    · rw [if_neg c2]; unfold bus; rw [decide_eq_false (by omega)]
  · rw [if_neg c, bus_no _ _ c]

/-- The first business day from one on; -1: none. -/
def Up (l : List Int) (d r : Int) : Prop := (r = -1 ∧ ∀ e, d ≤ e → bus e l = false) ∨ (d ≤ r ∧ bus r l = true ∧ ∀ e, d ≤ e → e < r → bus e l = false)
/-- The last business day up to one; -1: none. -/
def Dn (l : List Int) (d r : Int) : Prop := (r = -1 ∧ ∀ e, e ≤ d → bus e l = false) ∨ (r ≤ d ∧ bus r l = true ∧ ∀ e, r < e → e ≤ d → bus e l = false)

theorem Up.one {l : List Int} {d r s : Int} (h : Up l d r) (k : Up l d s) : r = s := by
  rcases h with ⟨rfl, h⟩ | ⟨h1, h2, h3⟩
  · rcases k with ⟨rfl, k⟩ | ⟨k1, k2, k3⟩
    · rfl
    · rw [h s k1] at k2; cases k2
  · rcases k with ⟨rfl, k⟩ | ⟨k1, k2, k3⟩
    · rw [k r h1] at h2; cases h2
    · by_cases c : r < s
      · rw [k3 r h1 c] at h2; cases h2
      · by_cases c2 : s < r
        · rw [h3 s k1 c2] at k2; cases k2
        · omega
theorem Dn.one {l : List Int} {d r s : Int} (h : Dn l d r) (k : Dn l d s) : r = s := by
  rcases h with ⟨rfl, h⟩ | ⟨h1, h2, h3⟩
  · rcases k with ⟨rfl, k⟩ | ⟨k1, k2, k3⟩
    · rfl
    · rw [h s k1] at k2; cases k2
  · rcases k with ⟨rfl, k⟩ | ⟨k1, k2, k3⟩
    · rw [k r h1] at h2; cases h2
    · by_cases c : r < s
      · rw [h3 s c k1] at k2; cases k2
      · by_cases c2 : s < r
        · rw [k3 r c2 h1] at h2; cases h2
        · omega
theorem Up.range {l : List Int} {d r : Int} (h : Up l d r) : r = -1 ∨ (0 ≤ r ∧ r ≤ 109572 ∧ d ≤ r) := by
  rcases h with ⟨rfl, h⟩ | ⟨h1, h2, h3⟩
  · exact .inl rfl
  · have := (bus_iff _ _).1 h2; exact .inr ⟨by omega, by omega, h1⟩
theorem Dn.range {l : List Int} {d r : Int} (h : Dn l d r) : r = -1 ∨ (0 ≤ r ∧ r ≤ 109572 ∧ r ≤ d) := by
  rcases h with ⟨rfl, h⟩ | ⟨h1, h2, h3⟩
  · exact .inl rfl
  · have := (bus_iff _ _).1 h2; exact .inr ⟨by omega, by omega, h1⟩
theorem Up.here {l : List Int} {d : Int} (h : bus d l = true) : Up l d d := .inr ⟨Int.le_refl _, h, fun e h1 h2 => by omega⟩
theorem Dn.here {l : List Int} {d : Int} (h : bus d l = true) : Dn l d d := .inr ⟨Int.le_refl _, h, fun e h1 h2 => by omega⟩
theorem Up.on {l : List Int} {d r : Int} (h : bus d l = false) (k : Up l (d + 1) r) : Up l d r := by
  rcases k with ⟨rfl, k⟩ | ⟨k1, k2, k3⟩
  · refine .inl ⟨rfl, fun e he => ?_⟩
    by_cases c : e = d
    · rw [c]; exact h
    · exact k e (by omega)
  · refine .inr ⟨by omega, k2, fun e he h2 => ?_⟩
    by_cases c : e = d
    · rw [c]; exact h
    · exact k3 e (by omega) h2
theorem Dn.on {l : List Int} {d r : Int} (h : bus d l = false) (k : Dn l (d - 1) r) : Dn l d r := by
  rcases k with ⟨rfl, k⟩ | ⟨k1, k2, k3⟩
  · refine .inl ⟨rfl, fun e he => ?_⟩
    by_cases c : e = d
    · rw [c]; exact h
    · exact k e (by omega)
  · refine .inr ⟨by omega, k2, fun e he h2 => ?_⟩
    by_cases c : e = d
    · rw [c]; exact h
    · exact k3 e he (by omega)

theorem walk_up (l : List Int) (hl : l.length ≤ 4611686018427387904) : ∀ (n k : Nat) (d : Int), 0 ≤ d → d + n = 109573 → n + l.length + 1 < k →
    ∃ xs, cal_walk.all k 1 l d = some xs ∧ Up l d (hd1 xs) := by
  intro n
  induction n with
  | zero =>
    intro k d h0 h1 hk
    obtain ⟨k, rfl⟩ : ∃ m, k = m + 1 := ⟨k - 1, by omega⟩
    refine ⟨[], ?_, .inl ⟨rfl, fun e he => bus_no _ _ (by omega)⟩⟩
    simp only [cal_walk.all]; rw [inside_eq]; simp only [Option.bind_some, decide_eq_true_eq]; rw [if_neg (by omega)]
  | succ n ih =>
    intro k d h0 h1 hk
    obtain ⟨k, rfl⟩ : ∃ m, k = m + 1 := ⟨k - 1, by omega⟩
    obtain ⟨xs, h2, h3⟩ := ih k (d + 1) (by omega) (by omega) (by omega)
    simp only [cal_walk.all]
    rw [inside_eq]; simp only [Option.bind_some, decide_eq_true_eq]
    rw [if_pos (by omega), business_eq l d hl k (by omega), wq64 _ (by omega) (by omega), h2]
    simp only [Option.bind_some]
    cases hb : bus d l with
    | true => exact ⟨_, rfl, Up.here hb⟩
    | false => exact ⟨_, rfl, Up.on hb h3⟩
theorem walk_dn (l : List Int) (hl : l.length ≤ 4611686018427387904) : ∀ (n k : Nat) (d : Int), d ≤ 109572 → d + 1 = n → n + l.length + 1 < k →
    ∃ xs, cal_walk.all k (-1) l d = some xs ∧ Dn l d (hd1 xs) := by
  intro n
  induction n with
  | zero =>
    intro k d h0 h1 hk
    obtain ⟨k, rfl⟩ : ∃ m, k = m + 1 := ⟨k - 1, by omega⟩
    refine ⟨[], ?_, .inl ⟨rfl, fun e he => bus_no _ _ (by omega)⟩⟩
    simp only [cal_walk.all]; rw [inside_eq]; simp only [Option.bind_some, decide_eq_true_eq]; rw [if_neg (by omega)]
  | succ n ih =>
    intro k d h0 h1 hk
    obtain ⟨k, rfl⟩ : ∃ m, k = m + 1 := ⟨k - 1, by omega⟩
    obtain ⟨xs, h2, h3⟩ := ih k (d - 1) (by omega) (by omega) (by omega)
    simp only [cal_walk.all]
    rw [inside_eq]; simp only [Option.bind_some, decide_eq_true_eq]
    rw [if_pos (by omega), business_eq l d hl k (by omega), wq64 _ (by omega) (by omega), show d + -1 = d - 1 by omega, h2]
    simp only [Option.bind_some]
    cases hb : bus d l with
    | true => exact ⟨_, rfl, Dn.here hb⟩
    | false => exact ⟨_, rfl, Dn.on hb h3⟩

theorem first_up (l : List Int) (hl : l.length ≤ 4611686018427387904) (k : Nat) (d : Int) (h0 : 0 ≤ d) (h1 : d ≤ 109572) (hk : 109600 + l.length < k) : ∃ r, cal_first.f k d 1 l = some r ∧ Up l d r := by
  obtain ⟨xs, h2, h3⟩ := walk_up l hl (109573 - d).toNat k d h0 (by omega) (by omega)
  refine ⟨hd1 xs, ?_, h3⟩
  unfold cal_first.f; rw [h2]; rfl
theorem first_dn (l : List Int) (hl : l.length ≤ 4611686018427387904) (k : Nat) (d : Int) (h0 : 0 ≤ d) (h1 : d ≤ 109572) (hk : 109600 + l.length < k) : ∃ r, cal_first.f k d (-1) l = some r ∧ Dn l d r := by
  obtain ⟨xs, h2, h3⟩ := walk_dn l hl (d + 1).toNat k d h1 (by omega) (by omega)
  refine ⟨hd1 xs, ?_, h3⟩
  unfold cal_first.f; rw [h2]; rfl

/-- Are two days of one month? -/
def sm (a b : Int) : Bool := decide ((dateV a).2.2.2 = 0 ∧ (dateV b).2.2.2 = 0 ∧ (dateV a).1 = (dateV b).1 ∧ (dateV a).2.1 = (dateV b).2.1)
theorem sm_eq (k : Nat) (a b : Int) : cal_sameMonth.f (k + 320) a b = some (sm a b) := by
  unfold cal_sameMonth.f sm
  rw [date_eq, date_eq]
  simp only [Option.bind_some]
  by_cases c : (dateV a).2.2.2 = 0
  · rw [if_pos c]
    by_cases c2 : (dateV b).2.2.2 = 0
    · rw [if_pos c2]; congr 1; rw [Bool.eq_iff_iff]; simp [c, c2]
    · rw [if_neg c2, decide_eq_false (by simp [c2])]
  · rw [if_neg c, decide_eq_false (by simp [c])]

/-- What Adjust tells, by the next and the last business day. -/
def adjV (d c up dn : Int) : Int × Int :=
  if c < 0 ∨ 3 < c then (0, 1) else if ¬ (0 ≤ d ∧ d ≤ 109572) then (0, 2) else if c = 0 then (d, 0)
  else if c = 3 ∨ (c = 2 ∧ sm d up = false) then (if dn < 0 then (0, 2) else (dn, 0)) else (if up < 0 then (0, 2) else (up, 0))

theorem adj_eq (l : List Int) (hl : l.length ≤ 4611686018427387904) (k : Nat) (d c up dn : Int) (hu : 0 ≤ d → d ≤ 109572 → Up l d up) (hd : 0 ≤ d → d ≤ 109572 → Dn l d dn) (hk : 110000 + l.length < k) :
    cal_Adjust.f k d c l = some (adjV d c up dn) := by
  obtain ⟨k, rfl⟩ : ∃ m, k = m + 3 := ⟨k - 3, by omega⟩
  unfold cal_Adjust.f adjV
  by_cases c1 : c < 0
  · rw [if_pos c1, if_pos (.inl c1)]; simp [cal_Adjust.j0]
  · rw [if_neg c1]
    by_cases c2 : c > 3
    · rw [if_pos (.inr c2), decide_eq_true c2]; simp [cal_Adjust.j0]
    · rw [if_neg (by omega), decide_eq_false c2]
      simp only [cal_Adjust.j0, Bool.false_eq_true, if_false]
      rw [inside_eq]; simp only [Option.bind_some, decide_eq_true_eq]
      by_cases c3 : 0 ≤ d ∧ d ≤ 109572
      · rw [if_pos c3, if_neg (show ¬¬(0 ≤ d ∧ d ≤ 109572) from fun h => h c3)]
        by_cases c4 : c = 0
        · rw [if_pos c4, if_pos c4]
        · rw [if_neg c4, if_neg c4]
          obtain ⟨u, hu1, hu2⟩ := first_up l hl (k + 2) d c3.1 c3.2 (by omega)
          obtain ⟨v, hv1, hv2⟩ := first_dn l hl k d c3.1 c3.2 (by omega)
          obtain rfl := hu2.one (hu c3.1 c3.2)
          obtain rfl := hv2.one (hd c3.1 c3.2)
          have J2 : ∀ (x : Int) (b : Bool), cal_Adjust.j2 (k + 1) d l x b = some (if b = true then (if v < 0 then (0, 2) else (v, 0)) else (if x < 0 then (0, 2) else (x, 0))) := by
            intro x b
            simp only [cal_Adjust.j2]
            cases b with
            | true => rw [if_pos rfl, hv1]; simp only [Option.bind_some, if_true]; split <;> rfl
            | false => simp only [Bool.false_eq_true, if_false]; split <;> rfl
          by_cases c5 : c = 3
          · rw [if_pos c5, if_pos (.inl c5)]
            simp only [cal_Adjust.j1]
            rw [if_pos c5, J2, if_pos rfl]
          · rw [if_neg c5, hu1]
            simp only [Option.bind_some, cal_Adjust.j1]
            rw [if_neg c5]
            by_cases c6 : c = 2
            · rw [if_pos c6, show k + 1 = (k - 319) + 320 by omega, sm_eq]
              simp only [Option.bind_some]
              rw [show (k - 319) + 320 = k + 1 by omega, J2]
              cases hs : sm d u with
              | true => simp [c5]
              | false => simp [c6]
            · rw [if_neg c6, J2]; simp [c5, c6]
      · rw [if_neg c3, if_pos c3]

theorem up_ex (l : List Int) (hl : l.length ≤ 4611686018427387904) (d : Int) : ∃ r, 0 ≤ d → d ≤ 109572 → Up l d r := by
  by_cases h : 0 ≤ d ∧ d ≤ 109572
  · obtain ⟨r, _, h2⟩ := first_up l hl (109601 + l.length) d h.1 h.2 (by omega)
    exact ⟨r, fun _ _ => h2⟩
  · exact ⟨0, fun h1 h2 => absurd ⟨h1, h2⟩ h⟩
theorem dn_ex (l : List Int) (hl : l.length ≤ 4611686018427387904) (d : Int) : ∃ r, 0 ≤ d → d ≤ 109572 → Dn l d r := by
  by_cases h : 0 ≤ d ∧ d ≤ 109572
  · obtain ⟨r, _, h2⟩ := first_dn l hl (109601 + l.length) d h.1 h.2 (by omega)
    exact ⟨r, fun _ _ => h2⟩
  · exact ⟨0, fun h1 h2 => absurd ⟨h1, h2⟩ h⟩

end Go.Proofs.YtdebllinaffceaaDoor.Plain
