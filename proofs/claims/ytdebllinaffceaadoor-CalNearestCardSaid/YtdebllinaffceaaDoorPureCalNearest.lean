/- For any number, any convention and any list of holidays: where Adjust tells a day, it is a business day and stays where it is, none lies between it and the day that was asked, on the way of the convention; Modified stays in the month where it can; where Adjust refuses, it is the error of the range and the day asked is no business day. The list reads as before. The package-level table cal.months is tied to the program's text. The list takes at most the memory that the row's sized condition names. No other condition. -/
import Derived.Test.YtdebllinaffceaaDoorPlainH
import Derived.Test.YtdebllinaffceaaDoorMPayofflaw02CalNearest
namespace Go.Proofs.YtdebllinaffceaaDoor.Pure
open Go.RowKit Go.Proofs.YtdebllinaffceaaDoor.M Go.Proofs.YtdebllinaffceaaDoor.Plain Go.Proofs.YtdebllinaffceaaDoorW.PrintWords Go.Proofs.YtdebllinaffceaaDoorW.PrintLast

theorem near_up (l : List Int) (hl : l.length ≤ 17592186044000) (x0 x1 r : Int) : ∀ (n k : Nat) (d : Int), l.length < k → d + n = r → 0 ≤ d → r ≤ 109572 → (∀ e, d ≤ e → e < r → bus e l = false) →
    payofflaw02_CalNearest.l0 (k + n) x0 x1 l r 1 d = payofflaw02_CalNearest.l0 k x0 x1 l r 1 r := by
  intro n
  induction n with
  | zero => intro k d hk hd _ _ _; obtain rfl : d = r := by omega
            rfl
  | succ n ih =>
    intro k d hk hd h0 h1 hb
    rw [show k + (n + 1) = (k + n) + 1 by omega]
    conv => lhs; rw [payofflaw02_CalNearest.l0]
    rw [if_neg (by omega), own_eq l hl (k + n) (by omega)]
    simp only [Option.bind_some]
    rw [business_eq l d (by omega) (k + n) (by omega), hb d (Int.le_refl _) (by omega)]
    simp only [Option.bind_some, Bool.false_eq_true, if_false]
    rw [wq64 _ (by omega) (by omega)]
    exact ih k (d + 1) hk (by omega) (by omega) h1 (fun e h2 h3 => hb e (by omega) h3)
theorem near_dn (l : List Int) (hl : l.length ≤ 17592186044000) (x0 x1 r : Int) : ∀ (n k : Nat) (d : Int), l.length < k → r + n = d → 0 ≤ r → d ≤ 109572 → (∀ e, r < e → e ≤ d → bus e l = false) →
    payofflaw02_CalNearest.l0 (k + n) x0 x1 l r (-1) d = payofflaw02_CalNearest.l0 k x0 x1 l r (-1) r := by
  intro n
  induction n with
  | zero => intro k d hk hd _ _ _; obtain rfl : d = r := by omega
            rfl
  | succ n ih =>
    intro k d hk hd h0 h1 hb
    rw [show k + (n + 1) = (k + n) + 1 by omega]
    conv => lhs; rw [payofflaw02_CalNearest.l0]
    rw [if_neg (by omega), own_eq l hl (k + n) (by omega)]
    simp only [Option.bind_some]
    rw [business_eq l d (by omega) (k + n) (by omega), hb d (by omega) (Int.le_refl _)]
    simp only [Option.bind_some, Bool.false_eq_true, if_false]
    rw [wq64 _ (by omega) (by omega)]
    exact ih k (d + -1) hk (by omega) h0 (by omega) (fun e h2 h3 => hb e h2 (by omega))

/-- The end of the law, behind its loop. -/
theorem near_end (l : List Int) (hl : l.length ≤ 17592186044000) (k : Nat) (hk : 120000 + l.length < k) (d c r step up dn : Int) (hu : Up l d up) (hd : Dn l d dn) (h0 : 0 ≤ d) (h9 : d ≤ 109572)
    (r0 : 0 ≤ r) (r9 : r ≤ 109572) (h2 : c = 2 → (sm d up = true ∧ r = up) ∨ (sm d up = false ∧ r = dn)) :
    payofflaw02_CalNearest.l0 k d c l r step r = some true := by
  obtain ⟨k, rfl⟩ : ∃ m, k = m + 3 := ⟨k - 3, by omega⟩
  have dr := dateV_in r r0 r9
  have dd := dateV_in d h0 h9
  obtain ⟨y1, m1, d1, e1, -, -⟩ := dr
  obtain ⟨y2, m2, d2, e2, -, -⟩ := dd
  have J5 : ∀ b : Bool, (b = true → sm d up = false) → payofflaw02_CalNearest.j5 (k + 1) d l b y2 m2 d2 = some true := by
    intro b hb
    simp only [payofflaw02_CalNearest.j5]
    cases b with
    | false => rfl
    | true =>
      have hs := hb rfl
      have ha : cal_Adjust.f k d 1 l = some (adjV d 1 up dn) := adj_eq l (by omega) k d 1 up dn (fun _ _ => hu) (fun _ _ => hd) (by omega)
      have ea : adjV d 1 up dn = if up < 0 then (0, 2) else (up, 0) := by
        unfold adjV
        rw [if_neg (by omega), if_neg (show ¬¬(0 ≤ d ∧ d ≤ 109572) from fun h => h ⟨h0, h9⟩), if_neg (by omega), if_neg (by omega)]
      rw [if_pos rfl, own_eq l hl k (by omega)]
      simp only [Option.bind_some]
      rw [ha, ea]
      by_cases c1 : up < 0
      · rw [if_pos c1]
        simp only [Option.bind_some]
        rw [show k = (k - 320) + 320 by omega, date_eq]
        simp [payofflaw02_num.f]
      · rw [if_neg c1]
        simp only [Option.bind_some]
        rw [show k = (k - 320) + 320 by omega, date_eq]
        have ru := hu.range
        obtain ⟨y3, m3, d3, e3, -, -⟩ := dateV_in up (by omega) (by omega)
        rw [e3]
        simp only [Option.bind_some, payofflaw02_num.f, if_true]
        have : ¬ (y2 = y3 ∧ m2 = m3) := by
          unfold sm at hs
          rw [decide_eq_false_iff_not, e2, e3] at hs
          simpa using hs
        by_cases c2 : y3 = y2
        · rw [if_pos c2]; congr 1; rw [bne_iff_ne]; rintro rfl; exact this ⟨c2.symm, rfl⟩
        · rw [if_neg c2]
  have J4 : ∀ b : Bool, (b = true → y1 = y2 ∧ m1 = m2) → (c = 2 → r < d → sm d up = false) → payofflaw02_CalNearest.j4 (k + 2) d c l r b y1 m1 d1 y2 m2 d2 = some true := by
    intro b hb hs
    simp only [payofflaw02_CalNearest.j4]
    cases b with
    | true =>
      obtain ⟨rfl, rfl⟩ := hb rfl
      simp
    | false =>
      simp only [Bool.false_eq_true, if_false]
      by_cases c1 : c = 2
      · rw [if_pos c1]; exact J5 _ (fun h => hs c1 (of_decide_eq_true h))
      · rw [if_neg c1]; exact J5 _ (fun h => by cases h)
  simp only [payofflaw02_CalNearest.l0]
  rw [if_pos trivial, show k + 2 = (k - 318) + 320 by omega, date_eq, date_eq, e1, e2]
  simp only [Option.bind_some, payofflaw02_num.f, if_true]
  rw [show (k - 318) + 320 = k + 2 by omega]
  have hs : c = 2 → r < d → sm d up = false := by
    intro c1 c2
    rcases h2 c1 with ⟨_, q⟩ | ⟨q, _⟩
    · have := hu.range; omega
    · exact q
  by_cases c1 : c = 2
  · rw [if_pos c1]
    refine J4 _ (fun h => ?_) hs
    have h := of_decide_eq_true h
    rcases h2 c1 with ⟨q, rfl⟩ | ⟨_, q⟩
    · unfold sm at q
      rw [decide_eq_true_iff, e1, e2] at q
      exact ⟨q.2.2.1.symm, q.2.2.2.symm⟩
    · have := hd.range; omega
  · rw [if_neg c1]
    exact J4 _ (fun h => by cases h) hs

theorem CalNearest (a0 a1 : Int) (l2 : List Int) (_ : (Lit.int .i64 a0).wf = true) (_ : (Lit.int .i64 a1).wf = true) (hl : l2.length ≤ 17592186044000) : ∃ k, payofflaw02_CalNearest.f k a0 a1 l2 = some true := by
  refine ⟨300000 + l2.length + 3, ?_⟩
  have B5 : ∀ k, cal_Business.f (k + 1) 5 [] = some false := fun k => by rw [business_eq [] 5 (by simp) (k + 1) (by simp)]; rfl
  have B7 : ∀ k, cal_Business.f (k + 1) 7 [] = some true := fun k => by rw [business_eq [] 7 (by simp) (k + 1) (by simp)]; rfl
  have J0 : payofflaw02_CalNearest.j0 (300000 + l2.length + 3) a0 a1 l2 true = some true := by
    simp only [payofflaw02_CalNearest.j0, if_true]
    rw [B5, B7]; rfl
  unfold payofflaw02_CalNearest.f
  by_cases c1 : a0 < 0
  · rw [if_pos c1, J0]
  rw [if_neg c1]
  by_cases c2 : a0 > 109572
  · rw [if_pos c2, J0]
  rw [if_neg c2]
  by_cases c3 : a1 < 1
  · rw [if_pos c3, J0]
  rw [if_neg c3]
  by_cases c4 : a1 > 3
  · rw [decide_eq_true c4, J0]
  rw [decide_eq_false c4]
  clear J0
  obtain ⟨up, hu'⟩ := up_ex l2 (by omega) a0
  obtain ⟨dn, hd'⟩ := dn_ex l2 (by omega) a0
  have hu := hu' (by omega) (by omega)
  have hd := hd' (by omega) (by omega)
  have ru := hu.range
  have rn := hd.range
  simp only [payofflaw02_CalNearest.j0, Bool.false_eq_true, if_false]
  rw [own_eq l2 hl (300000 + l2.length + 2) (by omega)]
  simp only [Option.bind_some]
  rw [adj_eq l2 (by omega) (300000 + l2.length + 2) a0 a1 up dn hu' hd' (by omega)]
  obtain ⟨res, hres, hr2⟩ : ∃ res, adjV a0 a1 up dn = (if res < 0 then (0, 2) else (res, 0)) ∧ ((res = up ∧ (a1 = 2 → sm a0 up = true) ∧ a1 ≠ 3) ∨ (res = dn ∧ (a1 = 2 → sm a0 up = false) ∧ a1 ≠ 1)) := by
    unfold adjV
    rw [if_neg (by omega), if_neg (show ¬¬(0 ≤ a0 ∧ a0 ≤ 109572) from fun h => h ⟨by omega, by omega⟩), if_neg (by omega)]
    by_cases q : a1 = 3 ∨ (a1 = 2 ∧ sm a0 up = false)
    · rw [if_pos q]
      refine ⟨dn, rfl, .inr ⟨rfl, fun h => ?_, by omega⟩⟩
      rcases q with q | q
      · omega
      · exact q.2
    · rw [if_neg q]
      refine ⟨up, rfl, .inl ⟨rfl, fun h => ?_, fun h => q (.inl h)⟩⟩
      cases hs : sm a0 up with
      | true => rfl
      | false => exact absurd (.inr ⟨h, hs⟩) q
  rw [hres]
  by_cases c5 : res < 0
  · rw [if_pos c5]
    simp only [Option.bind_some, payofflaw02_num.f]
    rw [if_neg (by omega)]
    simp only [if_true]
    rw [business_eq l2 a0 (by omega) (300000 + l2.length + 2) (by omega)]
    have hb : bus a0 l2 = false := by
      cases hb : bus a0 l2 with
      | false => rfl
      | true =>
        have h1 := hu.one (Up.here hb)
        have h2 := hd.one (Dn.here hb)
        omega
    rw [hb]
    simp only [Option.bind_some, Bool.false_eq_true, if_false]
    rw [B7]; rfl
  · rw [if_neg c5]
    simp only [Option.bind_some, payofflaw02_num.f, if_true]
    have hb : bus res l2 = true := by
      rcases hr2 with ⟨rfl, _⟩ | ⟨rfl, _⟩
      · rcases hu with ⟨q, _⟩ | ⟨_, q, _⟩
        · omega
        · exact q
      · rcases hd with ⟨q, _⟩ | ⟨_, q, _⟩
        · omega
        · exact q
    rw [adj_eq l2 (by omega) (300000 + l2.length + 2) res a1 res res (fun _ _ => Up.here hb) (fun _ _ => Dn.here hb) (by omega)]
    have bi := (bus_iff _ _).1 hb
    have e2 : adjV res a1 res res = (res, 0) := by
      unfold adjV
      rw [if_neg (by omega), if_neg (show ¬¬(0 ≤ res ∧ res ≤ 109572) from fun h => h ⟨by omega, by omega⟩), if_neg (by omega), if_neg c5]
      split <;> rfl
    rw [e2]
    simp only [Option.bind_some, if_true]
    rw [business_eq l2 res (by omega) (300000 + l2.length + 2) (by omega), hb]
    simp only [Option.bind_some, if_true]
    have H2 : a1 = 2 → (sm a0 up = true ∧ res = up) ∨ (sm a0 up = false ∧ res = dn) := by
      intro q
      rcases hr2 with ⟨h1, h2, _⟩ | ⟨h1, h2, _⟩
      · exact .inl ⟨h2 q, h1⟩
      · exact .inr ⟨h2 q, h1⟩
    have J1 : payofflaw02_CalNearest.j1 (300000 + l2.length + 2) a0 a1 l2 res false = some true := by
      simp only [payofflaw02_CalNearest.j1, Bool.false_eq_true, if_false]
      by_cases q : res < a0
      · rw [if_pos q]
        simp only [payofflaw02_CalNearest.j2]
        have hd2 : Dn l2 a0 res := by
          rcases hr2 with ⟨h1, _⟩ | ⟨h1, _⟩
          · omega
          · rw [h1]; exact hd
        have hn : ∀ e, res < e → e ≤ a0 → bus e l2 = false := by
          rcases hd2 with ⟨q2, _⟩ | ⟨_, _, q2⟩
          · omega
          · exact q2
        rw [show 300000 + l2.length = (300000 + l2.length - (a0 - res).toNat) + (a0 - res).toNat by omega, near_dn l2 hl a0 a1 res _ _ a0 (by omega) (by omega) (by omega) (by omega) hn]
        exact near_end l2 hl _ (by omega) a0 a1 res _ up dn hu hd (by omega) (by omega) (by omega) (by omega) H2
      · rw [if_neg q]
        simp only [payofflaw02_CalNearest.j2]
        have hn : ∀ e, a0 ≤ e → e < res → bus e l2 = false := by
          rcases hr2 with ⟨h1, _⟩ | ⟨h1, _⟩
          · rcases hu with ⟨q2, _⟩ | ⟨_, _, q2⟩
            · omega
            · rw [h1]; exact q2
          · intro e h2 h3; omega
        rw [show 300000 + l2.length = (300000 + l2.length - (res - a0).toNat) + (res - a0).toNat by omega, near_up l2 hl a0 a1 res _ _ a0 (by omega) (by omega) (by omega) (by omega) hn]
        exact near_end l2 hl _ (by omega) a0 a1 res _ up dn hu hd (by omega) (by omega) (by omega) (by omega) H2
    by_cases q1 : a1 = 1
    · rw [if_pos q1, if_neg (by omega), if_neg (by omega), J1]
    · rw [if_neg q1]
      by_cases q3 : a1 = 3
      · rw [if_pos q3, decide_eq_false (by omega), J1]
      · rw [if_neg q3, J1]

end Go.Proofs.YtdebllinaffceaaDoor.Pure
