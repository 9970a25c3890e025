-- Laid by this session's own program (wip/mix/mix.py) around the kit's printer, over bodies that stand in for some functions; not a printed text.
import Derived.Test.YtdebllinaffceaaDoorMx0
import Derived.Test.YtdebllinaffceaaDoorMCalLength
import Derived.Test.YtdebllinaffceaaDoorMPayofflaw02Num
import Derived.Test.YtdebllinaffceaaDoorMCalDate
import Derived.Test.YtdebllinaffceaaDoorMPayofflaw02Own
import Derived.Test.YtdebllinaffceaaDoorMCalBusiness
import Derived.Test.YtdebllinaffceaaDoorMCalAdjust
namespace Go.Proofs.YtdebllinaffceaaDoor.M
open Go.RowKit Go.Proofs.YtdebllinaffceaaDoorW.PrintWords Go.Proofs.YtdebllinaffceaaDoorW.PrintLast Go.Proofs.YtdebllinaffceaaDoorW.PrintMore
attribute [local go_sem] max2_int min2_int max_two min_two max_three min_three max_four min_four   -- for this text's walks alone
set_option linter.unusedVariables false
set_option linter.unusedSimpArgs false

/-! ### payofflaw02_CalNearest: function 12 -/
mutual
def payofflaw02_CalNearest.j0 : Nat → Int → Int → List Int → Bool → Option (Bool)
  | 0, _, _, _, _ => none
  | k + 1, x0, x1, x2, x34 => if x34 = true then ((cal_Business.f k 5 ([] : List Int)).bind fun t101 => (if (t101 == false) = true then ((cal_Business.f k 7 ([] : List Int)).bind fun t102 => (some t102)) else (none))) else ((payofflaw02_own.f k x2).bind fun t103 => ((cal_Adjust.f k x0 x1 t103).bind fun bt106 => ((payofflaw02_num.f bt106.2).bind fun t108 => (if t108 = 0 then ((payofflaw02_own.f k x2).bind fun t115 => ((cal_Adjust.f k bt106.1 x1 t115).bind fun bt118 => ((payofflaw02_num.f bt118.2).bind fun t120 => (if t120 = 0 then (if bt118.1 = bt106.1 then ((payofflaw02_own.f k x2).bind fun t121 => ((cal_Business.f k bt106.1 t121).bind fun t124 => (if t124 = true then (if x1 = 1 then (if bt106.1 < x0 then (none) else (if x1 = 3 then (none) else (payofflaw02_CalNearest.j1 k x0 x1 x2 bt106.1 false))) else (if x1 = 3 then (payofflaw02_CalNearest.j1 k x0 x1 x2 bt106.1 (decide (bt106.1 > x0))) else (payofflaw02_CalNearest.j1 k x0 x1 x2 bt106.1 false))) else (none)))) else (none)) else (none))))) else ((payofflaw02_num.f bt106.2).bind fun t109 => (if t109 = 2 then (if bt106.1 = 0 then ((payofflaw02_own.f k x2).bind fun t110 => ((cal_Business.f k x0 t110).bind fun t113 => (if t113 = true then (none) else ((cal_Business.f k 7 ([] : List Int)).bind fun t114 => (some t114))))) else (none)) else (none)))))))
def payofflaw02_CalNearest.j1 : Nat → Int → Int → List Int → Int → Bool → Option (Bool)
  | 0, _, _, _, _, _ => none
  | k + 1, x0, x1, x2, x7, x108 => if x108 = true then (none) else (if x7 < x0 then (payofflaw02_CalNearest.j2 k x0 x1 x2 x7 (-1)) else (payofflaw02_CalNearest.j2 k x0 x1 x2 x7 1))
def payofflaw02_CalNearest.j2 : Nat → Int → Int → List Int → Int → Int → Option (Bool)
  | 0, _, _, _, _, _ => none
  | k + 1, x0, x1, x2, x7, x11 => payofflaw02_CalNearest.l0 k x0 x1 x2 x7 x11 x0
def payofflaw02_CalNearest.l0 : Nat → Int → Int → List Int → Int → Int → Int → Option (Bool)
  | 0, _, _, _, _, _, _ => none
  | k + 1, x0, x1, x2, x7, x11, x12 => if x12 = x7 then ((cal_Date.f k x7).bind fun bt129 => ((cal_Date.f k x0).bind fun bt134 => ((payofflaw02_num.f bt129.2.2.2).bind fun t139 => (if t139 = 0 then ((payofflaw02_num.f bt134.2.2.2).bind fun t140 => (if t140 = 0 then (if x1 = 2 then (payofflaw02_CalNearest.j4 k x0 x1 x2 x7 (decide (x7 > x0)) bt129.1 bt129.2.1 bt129.2.2.1 bt134.1 bt134.2.1 bt134.2.2.1) else (payofflaw02_CalNearest.j4 k x0 x1 x2 x7 false bt129.1 bt129.2.1 bt129.2.2.1 bt134.1 bt134.2.1 bt134.2.2.1)) else (none))) else (none))))) else ((payofflaw02_own.f k x2).bind fun t125 => ((cal_Business.f k x12 t125).bind fun t128 => (if t128 = true then (none) else (payofflaw02_CalNearest.l0 k x0 x1 x2 x7 x11 (wrap64 (x12 + x11))))))
def payofflaw02_CalNearest.j4 : Nat → Int → Int → List Int → Int → Bool → Int → Int → Int → Int → Int → Int → Option (Bool)
  | 0, _, _, _, _, _, _, _, _, _, _, _ => none
  | k + 1, x0, x1, x2, x7, x147, x134000, x134001, x134002, x139000, x139001, x139002 => if x147 = true then (if x134000 = x139000 then (some (x134001 == x139001)) else (none)) else (if x1 = 2 then (payofflaw02_CalNearest.j5 k x0 x2 (decide (x7 < x0)) x139000 x139001 x139002) else (payofflaw02_CalNearest.j5 k x0 x2 false x139000 x139001 x139002))
def payofflaw02_CalNearest.j5 : Nat → Int → List Int → Bool → Int → Int → Int → Option (Bool)
  | 0, _, _, _, _, _, _ => none
  | k + 1, x0, x2, x166, x139000, x139001, x139002 => if x166 = true then ((payofflaw02_own.f k x2).bind fun t141 => ((cal_Adjust.f k x0 1 t141).bind fun bt144 => ((cal_Date.f k bt144.1).bind fun bt146 => ((payofflaw02_num.f bt144.2).bind fun t151 => (if t151 = 0 then (if bt146.1 = x139000 then (some (bt146.2.1 != x139001)) else (some true)) else (some true)))))) else (some true)
end
def payofflaw02_CalNearest.f (k : Nat) (a0 : Int) (a1 : Int) (l2 : List Int) : Option (Bool) := if a0 < 0 then (payofflaw02_CalNearest.j0 k a0 a1 l2 true) else (if a0 > 109572 then (payofflaw02_CalNearest.j0 k a0 a1 l2 true) else (if a1 < 1 then (payofflaw02_CalNearest.j0 k a0 a1 l2 true) else (payofflaw02_CalNearest.j0 k a0 a1 l2 (decide (a1 > 3)))))
theorem payofflaw02_CalNearest.mono_l : ∀ k, (∀ y0 y1 y2 y3, LeO (payofflaw02_CalNearest.j0 k y0 y1 y2 y3) (payofflaw02_CalNearest.j0 (k + 1) y0 y1 y2 y3)) ∧ (∀ y0 y1 y2 y3 y4, LeO (payofflaw02_CalNearest.j1 k y0 y1 y2 y3 y4) (payofflaw02_CalNearest.j1 (k + 1) y0 y1 y2 y3 y4)) ∧ (∀ y0 y1 y2 y3 y4, LeO (payofflaw02_CalNearest.j2 k y0 y1 y2 y3 y4) (payofflaw02_CalNearest.j2 (k + 1) y0 y1 y2 y3 y4)) ∧ (∀ y0 y1 y2 y3 y4 y5, LeO (payofflaw02_CalNearest.l0 k y0 y1 y2 y3 y4 y5) (payofflaw02_CalNearest.l0 (k + 1) y0 y1 y2 y3 y4 y5)) ∧ (∀ y0 y1 y2 y3 y4 y5 y6 y7 y8 y9 y10, LeO (payofflaw02_CalNearest.j4 k y0 y1 y2 y3 y4 y5 y6 y7 y8 y9 y10) (payofflaw02_CalNearest.j4 (k + 1) y0 y1 y2 y3 y4 y5 y6 y7 y8 y9 y10)) ∧ (∀ y0 y1 y2 y3 y4 y5, LeO (payofflaw02_CalNearest.j5 k y0 y1 y2 y3 y4 y5) (payofflaw02_CalNearest.j5 (k + 1) y0 y1 y2 y3 y4 y5))
  | 0 => ⟨fun _ _ _ _ r h => by simp [payofflaw02_CalNearest.j0] at h, fun _ _ _ _ _ r h => by simp [payofflaw02_CalNearest.j1] at h, fun _ _ _ _ _ r h => by simp [payofflaw02_CalNearest.j2] at h, fun _ _ _ _ _ _ r h => by simp [payofflaw02_CalNearest.l0] at h, fun _ _ _ _ _ _ _ _ _ _ _ r h => by simp [payofflaw02_CalNearest.j4] at h, fun _ _ _ _ _ _ r h => by simp [payofflaw02_CalNearest.j5] at h⟩
  | k + 1 => by
    obtain ⟨ih0, ih1, ih2, ih3, ih4, ih5⟩ := payofflaw02_CalNearest.mono_l k
    refine ⟨?_, ?_, ?_, ?_, ?_, ?_⟩
    · intro y0 y1 y2 y3
      unfold payofflaw02_CalNearest.j0
      repeat' first
      | (with_reducible exact ih0 _ _ _ _)
      | (with_reducible exact ih1 _ _ _ _ _)
      | (with_reducible exact ih2 _ _ _ _ _)
      | (with_reducible exact ih3 _ _ _ _ _ _)
      | (with_reducible exact ih4 _ _ _ _ _ _ _ _ _ _ _)
      | (with_reducible exact ih5 _ _ _ _ _ _)
      | (with_reducible exact cal_Adjust.mono _ _ _ _)
      | (with_reducible exact cal_Business.mono _ _ _)
      | (with_reducible exact cal_Date.mono _ _)
      | (with_reducible exact payofflaw02_own.mono _ _)
      | (with_reducible exact LeO.refl _)
      | (with_reducible exact LeO.none _)
      | (with_reducible refine LeO.ite ?_ ?_)
      | (with_reducible refine LeO.bind ?_ (fun _ => ?_))
      | exact ih0 _ _ _ _
      | exact ih1 _ _ _ _ _
      | exact ih2 _ _ _ _ _
      | exact ih3 _ _ _ _ _ _
      | exact ih4 _ _ _ _ _ _ _ _ _ _ _
      | exact ih5 _ _ _ _ _ _
      | exact cal_Adjust.mono _ _ _ _
      | exact cal_Business.mono _ _ _
      | exact cal_Date.mono _ _
      | exact payofflaw02_own.mono _ _
      | exact LeO.none _
      | refine LeO.ite ?_ ?_
      | refine LeO.bind ?_ (fun _ => ?_)
    · intro y0 y1 y2 y3 y4
      unfold payofflaw02_CalNearest.j1
      repeat' first
      | (with_reducible exact ih0 _ _ _ _)
      | (with_reducible exact ih1 _ _ _ _ _)
      | (with_reducible exact ih2 _ _ _ _ _)
      | (with_reducible exact ih3 _ _ _ _ _ _)
      | (with_reducible exact ih4 _ _ _ _ _ _ _ _ _ _ _)
      | (with_reducible exact ih5 _ _ _ _ _ _)
      | (with_reducible exact cal_Adjust.mono _ _ _ _)
      | (with_reducible exact cal_Business.mono _ _ _)
      | (with_reducible exact cal_Date.mono _ _)
      | (with_reducible exact payofflaw02_own.mono _ _)
      | (with_reducible exact LeO.refl _)
      | (with_reducible exact LeO.none _)
      | (with_reducible refine LeO.ite ?_ ?_)
      | (with_reducible refine LeO.bind ?_ (fun _ => ?_))
      | exact ih0 _ _ _ _
      | exact ih1 _ _ _ _ _
      | exact ih2 _ _ _ _ _
      | exact ih3 _ _ _ _ _ _
      | exact ih4 _ _ _ _ _ _ _ _ _ _ _
      | exact ih5 _ _ _ _ _ _
      | exact cal_Adjust.mono _ _ _ _
      | exact cal_Business.mono _ _ _
      | exact cal_Date.mono _ _
      | exact payofflaw02_own.mono _ _
      | exact LeO.none _
      | refine LeO.ite ?_ ?_
      | refine LeO.bind ?_ (fun _ => ?_)
    · intro y0 y1 y2 y3 y4
      unfold payofflaw02_CalNearest.j2
      repeat' first
      | (with_reducible exact ih0 _ _ _ _)
      | (with_reducible exact ih1 _ _ _ _ _)
      | (with_reducible exact ih2 _ _ _ _ _)
      | (with_reducible exact ih3 _ _ _ _ _ _)
      | (with_reducible exact ih4 _ _ _ _ _ _ _ _ _ _ _)
      | (with_reducible exact ih5 _ _ _ _ _ _)
      | (with_reducible exact cal_Adjust.mono _ _ _ _)
      | (with_reducible exact cal_Business.mono _ _ _)
      | (with_reducible exact cal_Date.mono _ _)
      | (with_reducible exact payofflaw02_own.mono _ _)
      | (with_reducible exact LeO.refl _)
      | (with_reducible exact LeO.none _)
      | (with_reducible refine LeO.ite ?_ ?_)
      | (with_reducible refine LeO.bind ?_ (fun _ => ?_))
      | exact ih0 _ _ _ _
      | exact ih1 _ _ _ _ _
      | exact ih2 _ _ _ _ _
      | exact ih3 _ _ _ _ _ _
      | exact ih4 _ _ _ _ _ _ _ _ _ _ _
      | exact ih5 _ _ _ _ _ _
      | exact cal_Adjust.mono _ _ _ _
      | exact cal_Business.mono _ _ _
      | exact cal_Date.mono _ _
      | exact payofflaw02_own.mono _ _
      | exact LeO.none _
      | refine LeO.ite ?_ ?_
      | refine LeO.bind ?_ (fun _ => ?_)
    · intro y0 y1 y2 y3 y4 y5
      unfold payofflaw02_CalNearest.l0
      repeat' first
      | (with_reducible exact ih0 _ _ _ _)
      | (with_reducible exact ih1 _ _ _ _ _)
      | (with_reducible exact ih2 _ _ _ _ _)
      | (with_reducible exact ih3 _ _ _ _ _ _)
      | (with_reducible exact ih4 _ _ _ _ _ _ _ _ _ _ _)
      | (with_reducible exact ih5 _ _ _ _ _ _)
      | (with_reducible exact cal_Adjust.mono _ _ _ _)
      | (with_reducible exact cal_Business.mono _ _ _)
      | (with_reducible exact cal_Date.mono _ _)
      | (with_reducible exact payofflaw02_own.mono _ _)
      | (with_reducible exact LeO.refl _)
      | (with_reducible exact LeO.none _)
      | (with_reducible refine LeO.ite ?_ ?_)
      | (with_reducible refine LeO.bind ?_ (fun _ => ?_))
      | exact ih0 _ _ _ _
      | exact ih1 _ _ _ _ _
      | exact ih2 _ _ _ _ _
      | exact ih3 _ _ _ _ _ _
      | exact ih4 _ _ _ _ _ _ _ _ _ _ _
      | exact ih5 _ _ _ _ _ _
      | exact cal_Adjust.mono _ _ _ _
      | exact cal_Business.mono _ _ _
      | exact cal_Date.mono _ _
      | exact payofflaw02_own.mono _ _
      | exact LeO.none _
      | refine LeO.ite ?_ ?_
      | refine LeO.bind ?_ (fun _ => ?_)
    · intro y0 y1 y2 y3 y4 y5 y6 y7 y8 y9 y10
      unfold payofflaw02_CalNearest.j4
      repeat' first
      | (with_reducible exact ih0 _ _ _ _)
      | (with_reducible exact ih1 _ _ _ _ _)
      | (with_reducible exact ih2 _ _ _ _ _)
      | (with_reducible exact ih3 _ _ _ _ _ _)
      | (with_reducible exact ih4 _ _ _ _ _ _ _ _ _ _ _)
      | (with_reducible exact ih5 _ _ _ _ _ _)
      | (with_reducible exact cal_Adjust.mono _ _ _ _)
      | (with_reducible exact cal_Business.mono _ _ _)
      | (with_reducible exact cal_Date.mono _ _)
      | (with_reducible exact payofflaw02_own.mono _ _)
      | (with_reducible exact LeO.refl _)
      | (with_reducible exact LeO.none _)
      | (with_reducible refine LeO.ite ?_ ?_)
      | (with_reducible refine LeO.bind ?_ (fun _ => ?_))
      | exact ih0 _ _ _ _
      | exact ih1 _ _ _ _ _
      | exact ih2 _ _ _ _ _
      | exact ih3 _ _ _ _ _ _
      | exact ih4 _ _ _ _ _ _ _ _ _ _ _
      | exact ih5 _ _ _ _ _ _
      | exact cal_Adjust.mono _ _ _ _
      | exact cal_Business.mono _ _ _
      | exact cal_Date.mono _ _
      | exact payofflaw02_own.mono _ _
      | exact LeO.none _
      | refine LeO.ite ?_ ?_
      | refine LeO.bind ?_ (fun _ => ?_)
    · intro y0 y1 y2 y3 y4 y5
      unfold payofflaw02_CalNearest.j5
      repeat' first
      | (with_reducible exact ih0 _ _ _ _)
      | (with_reducible exact ih1 _ _ _ _ _)
      | (with_reducible exact ih2 _ _ _ _ _)
      | (with_reducible exact ih3 _ _ _ _ _ _)
      | (with_reducible exact ih4 _ _ _ _ _ _ _ _ _ _ _)
      | (with_reducible exact ih5 _ _ _ _ _ _)
      | (with_reducible exact cal_Adjust.mono _ _ _ _)
      | (with_reducible exact cal_Business.mono _ _ _)
      | (with_reducible exact cal_Date.mono _ _)
      | (with_reducible exact payofflaw02_own.mono _ _)
      | (with_reducible exact LeO.refl _)
      | (with_reducible exact LeO.none _)
      | (with_reducible refine LeO.ite ?_ ?_)
      | (with_reducible refine LeO.bind ?_ (fun _ => ?_))
      | exact ih0 _ _ _ _
      | exact ih1 _ _ _ _ _
      | exact ih2 _ _ _ _ _
      | exact ih3 _ _ _ _ _ _
      | exact ih4 _ _ _ _ _ _ _ _ _ _ _
      | exact ih5 _ _ _ _ _ _
      | exact cal_Adjust.mono _ _ _ _
      | exact cal_Business.mono _ _ _
      | exact cal_Date.mono _ _
      | exact payofflaw02_own.mono _ _
      | exact LeO.none _
      | refine LeO.ite ?_ ?_
      | refine LeO.bind ?_ (fun _ => ?_)
theorem payofflaw02_CalNearest.mono : ∀ a0 a1 a2 k, LeO (payofflaw02_CalNearest.f k a0 a1 a2) (payofflaw02_CalNearest.f (k + 1) a0 a1 a2) := by
  intro a0 a1 a2 k
  obtain ⟨ih0, ih1, ih2, ih3, ih4, ih5⟩ := payofflaw02_CalNearest.mono_l k
  unfold payofflaw02_CalNearest.f
  repeat' first
      | (with_reducible exact ih0 _ _ _ _)
      | (with_reducible exact ih1 _ _ _ _ _)
      | (with_reducible exact ih2 _ _ _ _ _)
      | (with_reducible exact ih3 _ _ _ _ _ _)
      | (with_reducible exact ih4 _ _ _ _ _ _ _ _ _ _ _)
      | (with_reducible exact ih5 _ _ _ _ _ _)
      | (with_reducible exact cal_Adjust.mono _ _ _ _)
      | (with_reducible exact cal_Business.mono _ _ _)
      | (with_reducible exact cal_Date.mono _ _)
      | (with_reducible exact payofflaw02_own.mono _ _)
      | (with_reducible exact LeO.refl _)
      | (with_reducible exact LeO.none _)
      | (with_reducible refine LeO.ite ?_ ?_)
      | (with_reducible refine LeO.bind ?_ (fun _ => ?_))
      | exact ih0 _ _ _ _
      | exact ih1 _ _ _ _ _
      | exact ih2 _ _ _ _ _
      | exact ih3 _ _ _ _ _ _
      | exact ih4 _ _ _ _ _ _ _ _ _ _ _
      | exact ih5 _ _ _ _ _ _
      | exact cal_Adjust.mono _ _ _ _
      | exact cal_Business.mono _ _ _
      | exact cal_Date.mono _ _
      | exact payofflaw02_own.mono _ _
      | exact LeO.none _
      | refine LeO.ite ?_ ?_
      | refine LeO.bind ?_ (fun _ => ?_)
set_option maxHeartbeats 8000000 in
set_option maxRecDepth 100000 in
theorem payofflaw02_CalNearest.calls (k : Nat) (a0 : Int) (a1 : Int) (A2 : Option Addr) (c2 : Nat) (l2 : List Int) (r : Bool) (w : World) (hr2 : Kd.C (Kd.int .i64) w A2 l2.length l2) (hc2 : l2.length ≤ c2) (h : payofflaw02_CalNearest.f k a0 a1 l2 = some r) (G0 : TabW w) :
    Calls Tryd.prog 12 #[.int .i64 a0, .int .i64 a1, .slice A2 l2.length c2] w fun e w' => e = .returned (.bool r) ∧ Below w.heap.size w w' := by
  have GT := Aside0.mk G0
  clear G0
  have hu23 := Tryd.underlying23
  have HR2 := Aside0.mk hr2
  have HC2 := Aside0.mk hc2
  clear hr2 hc2
  have HB := Aside0.mk (Below.refl w.heap.size w)
  have H : (if a0 < 0 then (payofflaw02_CalNearest.j0 k a0 a1 l2 true) else (if a0 > 109572 then (payofflaw02_CalNearest.j0 k a0 a1 l2 true) else (if a1 < 1 then (payofflaw02_CalNearest.j0 k a0 a1 l2 true) else (payofflaw02_CalNearest.j0 k a0 a1 l2 (decide (a1 > 3)))))) = some r := h
  clear h
  have HC4 := Aside0.mk H
  clear H
  go_enter Tryd.func12, Tryd.ntmps12
  go_upto_region 1 with (fail)
  go_cut [34] (fun v34 wc => ∃ (kq : Nat) (x34_3 : Bool), v34 = .bool x34_3 ∧ Aside0 (payofflaw02_CalNearest.j0 kq a0 a1 l2 x34_3 = some r) ∧ Aside0 (kq ≤ k) ∧ Aside0 (Below w.heap.size w wc))
  case first =>
    have H := HC4.out
    clear HC4
    by_cases c5 : a0 < 0
    · as_aux_lemma =>
        rw [if_pos c5] at H
        have c5b0 : decide (a0 < 0) = true := decide_eq_true c5
        clear c5
        (first | rw [c5b0] | (simp only [i64_w, i32_w]; rw [c5b0]) | skip)
        have H' := Aside0.mk H
        clear H
        go_wp2
        go_meet
        case rel => exact ⟨_, (true), (by first | rfl | (simp; done) | (simp [*]; done)), H', ⟨by first | omega | exact Nat.le_refl _⟩, ⟨by repeat (first | (with_reducible first | exact HB.out | apply below_alloc | apply pw_below_drewN | apply below_drew1) | exact HB.out)⟩⟩
    · as_aux_lemma =>
        rw [if_neg c5] at H
        have c5b0 : decide (a0 < 0) = false := decide_eq_false c5
        clear c5
        (first | rw [c5b0] | (simp only [i64_w, i32_w]; rw [c5b0]) | skip)
        by_cases c6 : a0 > 109572
        · as_aux_lemma =>
            rw [if_pos c6] at H
            have c6b0 : decide (109572 < a0) = true := decide_eq_true c6
            clear c6
            have H' := Aside0.mk H
            clear H
            go_wp2
            go_meet
            case rel => exact ⟨_, (true), (by first | rfl | (simp; done) | (simp [*]; done)), H', ⟨by first | omega | exact Nat.le_refl _⟩, ⟨by repeat (first | (with_reducible first | exact HB.out | apply below_alloc | apply pw_below_drewN | apply below_drew1) | exact HB.out)⟩⟩
        · as_aux_lemma =>
            rw [if_neg c6] at H
            have c6b0 : decide (109572 < a0) = false := decide_eq_false c6
            clear c6
            by_cases c7 : a1 < 1
            · as_aux_lemma =>
                rw [if_pos c7] at H
                have c7b0 : decide (a1 < 1) = true := decide_eq_true c7
                clear c7
                have H' := Aside0.mk H
                clear H
                go_wp2
                go_meet
                case rel => exact ⟨_, (true), (by first | rfl | (simp; done) | (simp [*]; done)), H', ⟨by first | omega | exact Nat.le_refl _⟩, ⟨by repeat (first | (with_reducible first | exact HB.out | apply below_alloc | apply pw_below_drewN | apply below_drew1) | exact HB.out)⟩⟩
            · as_aux_lemma =>
                rw [if_neg c7] at H
                have c7b0 : decide (a1 < 1) = false := decide_eq_false c7
                clear c7
                have H' := Aside0.mk H
                clear H
                go_wp2
                go_meet
                case rel => exact ⟨_, (decide (a1 > 3)), (by first | rfl | (simp; done) | (simp [*]; done)), H', ⟨by first | omega | exact Nat.le_refl _⟩, ⟨by repeat (first | (with_reducible first | exact HB.out | apply below_alloc | apply pw_below_drewN | apply below_drew1) | exact HB.out)⟩⟩
  case rest =>
    clear HC4
    try clear c1
    try clear c2
    try clear p2
    try clear c5
    try clear c5b0
    try clear c6
    try clear c6b0
    try clear c7
    try clear c7b0
    obtain ⟨kq, x34_3, rfl, HA, HJ3, HB⟩ := hcut
    cases kq with
    | zero => exact absurd HA.out (by simp [payofflaw02_CalNearest.j0])
    | succ kj3 =>
      have H := HA.out
      clear HA
      simp only [payofflaw02_CalNearest.j0] at H
      by_cases c8 : x34_3 = true
      · subst c8
        have H1 : ((cal_Business.f kj3 5 ([] : List Int)).bind fun t101 => (if (t101 == false) = true then ((cal_Business.f kj3 7 ([] : List Int)).bind fun t102 => (some t102)) else (none))) = some r := by rw [if_pos rfl] at H; exact H
        clear H
        have H := H1
        clear H1
        replace H := Option.bind_eq_some_iff.mp H
        obtain ⟨t101, A90, H⟩ := H
        replace H : (if (t101 == false) = true then ((cal_Business.f kj3 7 ([] : List Int)).bind fun t102 => (some t102)) else (none)) = some r := H
        have A9 := Aside0.mk A90
        clear A90
        by_cases c10 : (t101 == false) = true
        · as_aux_lemma =>
            rw [if_pos c10] at H
            have c10b0 : (t101 == false) = true := c10
            (try (have c10b1 : decide (t101 = false) = true := by simpa using c10))
            (try (have c10b2 : (t101 == false) = true := by simpa using c10))
            clear c10
            replace H := Option.bind_eq_some_iff.mp H
            obtain ⟨t102, A110, H⟩ := H
            replace H : (some t102) = some r := H
            have A11 := Aside0.mk A110
            clear A110
            obtain rfl := Option.some.inj H
            go_wp2_with (first | ((with_reducible refine gate_callee (f := 31) rfl ?_); refine goesL_ (some 35) rfl rfl Tryd.func31 (by kernel_rfl) rfl #[.int .i64 5, .slice none 0 0] rfl (by (try simp only [List.map_toArray, List.map_cons, List.map_nil]); first | done | rfl | (simp only [List.length_drop, List.length_take]; rfl)) ?_; (refine (cal_Business.calls kj3 5 _ _ ([] : List Int) t101 _ ?side1 ?side2 A9.out).mono ?_); (case side1 => exact Kd.C_nil _ _); (case side2 => exact Nat.le_refl _); rintro e w' ⟨rfl, ⟨nd, rfl⟩⟩; refine ⟨_, rfl, ?_⟩) | (go_at_call 31; (refine (cal_Business.calls kj3 7 _ _ ([] : List Int) t102 _ ?side1 ?side2 A11.out).mono ?_); (case side1 => exact Kd.C_nil _ _); (case side2 => exact Nat.le_refl _); rintro e w' ⟨rfl, ⟨nd, rfl⟩⟩))
            go_ret
            exact ⟨by first | rfl | (simp [errW_none, errW_some] <;> rfl) | (simp [*, errW_none, errW_some] <;> rfl), by repeat (first | (with_reducible first | exact HB.out | apply below_alloc | apply pw_below_drewN | apply below_drew1) | exact HB.out)⟩
        · as_aux_lemma =>
            rw [if_neg c10] at H
            exact absurd H (by simp)
      · replace c8 := Bool.eq_false_iff.mpr c8
        subst c8
        have H1 : ((payofflaw02_own.f kj3 l2).bind fun t103 => ((cal_Adjust.f kj3 a0 a1 t103).bind fun bt106 => ((payofflaw02_num.f bt106.2).bind fun t108 => (if t108 = 0 then ((payofflaw02_own.f kj3 l2).bind fun t115 => ((cal_Adjust.f kj3 bt106.1 a1 t115).bind fun bt118 => ((payofflaw02_num.f bt118.2).bind fun t120 => (if t120 = 0 then (if bt118.1 = bt106.1 then ((payofflaw02_own.f kj3 l2).bind fun t121 => ((cal_Business.f kj3 bt106.1 t121).bind fun t124 => (if t124 = true then (if a1 = 1 then (if bt106.1 < a0 then (none) else (if a1 = 3 then (none) else (payofflaw02_CalNearest.j1 kj3 a0 a1 l2 bt106.1 false))) else (if a1 = 3 then (payofflaw02_CalNearest.j1 kj3 a0 a1 l2 bt106.1 (decide (bt106.1 > a0))) else (payofflaw02_CalNearest.j1 kj3 a0 a1 l2 bt106.1 false))) else (none)))) else (none)) else (none))))) else ((payofflaw02_num.f bt106.2).bind fun t109 => (if t109 = 2 then (if bt106.1 = 0 then ((payofflaw02_own.f kj3 l2).bind fun t110 => ((cal_Business.f kj3 a0 t110).bind fun t113 => (if t113 = true then (none) else ((cal_Business.f kj3 7 ([] : List Int)).bind fun t114 => (some t114))))) else (none)) else (none))))))) = some r := by rw [if_neg (show ¬ (false = true) by decide)] at H; exact H
        clear H
        have H := H1
        clear H1
        replace H := Option.bind_eq_some_iff.mp H
        obtain ⟨t103, A120, H⟩ := H
        replace H : ((cal_Adjust.f kj3 a0 a1 t103).bind fun bt106 => ((payofflaw02_num.f bt106.2).bind fun t108 => (if t108 = 0 then ((payofflaw02_own.f kj3 l2).bind fun t115 => ((cal_Adjust.f kj3 bt106.1 a1 t115).bind fun bt118 => ((payofflaw02_num.f bt118.2).bind fun t120 => (if t120 = 0 then (if bt118.1 = bt106.1 then ((payofflaw02_own.f kj3 l2).bind fun t121 => ((cal_Business.f kj3 bt106.1 t121).bind fun t124 => (if t124 = true then (if a1 = 1 then (if bt106.1 < a0 then (none) else (if a1 = 3 then (none) else (payofflaw02_CalNearest.j1 kj3 a0 a1 l2 bt106.1 false))) else (if a1 = 3 then (payofflaw02_CalNearest.j1 kj3 a0 a1 l2 bt106.1 (decide (bt106.1 > a0))) else (payofflaw02_CalNearest.j1 kj3 a0 a1 l2 bt106.1 false))) else (none)))) else (none)) else (none))))) else ((payofflaw02_num.f bt106.2).bind fun t109 => (if t109 = 2 then (if bt106.1 = 0 then ((payofflaw02_own.f kj3 l2).bind fun t110 => ((cal_Business.f kj3 a0 t110).bind fun t113 => (if t113 = true then (none) else ((cal_Business.f kj3 7 ([] : List Int)).bind fun t114 => (some t114))))) else (none)) else (none)))))) = some r := H
        have A12 := Aside0.mk A120
        clear A120
        replace H := Option.bind_eq_some_iff.mp H
        obtain ⟨⟨t106, t107⟩, A130, H⟩ := H
        replace H : ((payofflaw02_num.f t107).bind fun t108 => (if t108 = 0 then ((payofflaw02_own.f kj3 l2).bind fun t115 => ((cal_Adjust.f kj3 t106 a1 t115).bind fun bt118 => ((payofflaw02_num.f bt118.2).bind fun t120 => (if t120 = 0 then (if bt118.1 = t106 then ((payofflaw02_own.f kj3 l2).bind fun t121 => ((cal_Business.f kj3 t106 t121).bind fun t124 => (if t124 = true then (if a1 = 1 then (if t106 < a0 then (none) else (if a1 = 3 then (none) else (payofflaw02_CalNearest.j1 kj3 a0 a1 l2 t106 false))) else (if a1 = 3 then (payofflaw02_CalNearest.j1 kj3 a0 a1 l2 t106 (decide (t106 > a0))) else (payofflaw02_CalNearest.j1 kj3 a0 a1 l2 t106 false))) else (none)))) else (none)) else (none))))) else ((payofflaw02_num.f t107).bind fun t109 => (if t109 = 2 then (if t106 = 0 then ((payofflaw02_own.f kj3 l2).bind fun t110 => ((cal_Business.f kj3 a0 t110).bind fun t113 => (if t113 = true then (none) else ((cal_Business.f kj3 7 ([] : List Int)).bind fun t114 => (some t114))))) else (none)) else (none))))) = some r := H
        have A13 := Aside0.mk A130
        clear A130
        replace H := Option.bind_eq_some_iff.mp H
        obtain ⟨t108, A140, H⟩ := H
        replace H : (if t108 = 0 then ((payofflaw02_own.f kj3 l2).bind fun t115 => ((cal_Adjust.f kj3 t106 a1 t115).bind fun bt118 => ((payofflaw02_num.f bt118.2).bind fun t120 => (if t120 = 0 then (if bt118.1 = t106 then ((payofflaw02_own.f kj3 l2).bind fun t121 => ((cal_Business.f kj3 t106 t121).bind fun t124 => (if t124 = true then (if a1 = 1 then (if t106 < a0 then (none) else (if a1 = 3 then (none) else (payofflaw02_CalNearest.j1 kj3 a0 a1 l2 t106 false))) else (if a1 = 3 then (payofflaw02_CalNearest.j1 kj3 a0 a1 l2 t106 (decide (t106 > a0))) else (payofflaw02_CalNearest.j1 kj3 a0 a1 l2 t106 false))) else (none)))) else (none)) else (none))))) else ((payofflaw02_num.f t107).bind fun t109 => (if t109 = 2 then (if t106 = 0 then ((payofflaw02_own.f kj3 l2).bind fun t110 => ((cal_Business.f kj3 a0 t110).bind fun t113 => (if t113 = true then (none) else ((cal_Business.f kj3 7 ([] : List Int)).bind fun t114 => (some t114))))) else (none)) else (none)))) = some r := H
        have A14 := Aside0.mk A140
        clear A140
        by_cases c15 : t108 = 0
        · as_aux_lemma =>
            rw [if_pos c15] at H
            have c15b0 : (t108 == 0) = true := beq_iff_eq.mpr c15
            have c15b1 : (t108 != 0) = false := bne_eq_false_iff_eq.mpr c15
            clear c15
            replace H := Option.bind_eq_some_iff.mp H
            obtain ⟨t115, A160, H⟩ := H
            replace H : ((cal_Adjust.f kj3 t106 a1 t115).bind fun bt118 => ((payofflaw02_num.f bt118.2).bind fun t120 => (if t120 = 0 then (if bt118.1 = t106 then ((payofflaw02_own.f kj3 l2).bind fun t121 => ((cal_Business.f kj3 t106 t121).bind fun t124 => (if t124 = true then (if a1 = 1 then (if t106 < a0 then (none) else (if a1 = 3 then (none) else (payofflaw02_CalNearest.j1 kj3 a0 a1 l2 t106 false))) else (if a1 = 3 then (payofflaw02_CalNearest.j1 kj3 a0 a1 l2 t106 (decide (t106 > a0))) else (payofflaw02_CalNearest.j1 kj3 a0 a1 l2 t106 false))) else (none)))) else (none)) else (none)))) = some r := H
            have A16 := Aside0.mk A160
            clear A160
            replace H := Option.bind_eq_some_iff.mp H
            obtain ⟨⟨t118, t119⟩, A170, H⟩ := H
            replace H : ((payofflaw02_num.f t119).bind fun t120 => (if t120 = 0 then (if t118 = t106 then ((payofflaw02_own.f kj3 l2).bind fun t121 => ((cal_Business.f kj3 t106 t121).bind fun t124 => (if t124 = true then (if a1 = 1 then (if t106 < a0 then (none) else (if a1 = 3 then (none) else (payofflaw02_CalNearest.j1 kj3 a0 a1 l2 t106 false))) else (if a1 = 3 then (payofflaw02_CalNearest.j1 kj3 a0 a1 l2 t106 (decide (t106 > a0))) else (payofflaw02_CalNearest.j1 kj3 a0 a1 l2 t106 false))) else (none)))) else (none)) else (none))) = some r := H
            have A17 := Aside0.mk A170
            clear A170
            have HC18 := Aside0.mk H
            clear H
            go_upto_region 7 with (first | ((with_reducible refine gate_callee (f := 30) rfl ?_); refine goesL_ (some 44) rfl rfl Tryd.func30 (by kernel_rfl) rfl #[.slice A2 l2.length c2] rfl (by (try simp only [List.map_toArray, List.map_cons, List.map_nil]); first | done | rfl | (simp only [List.length_drop, List.length_take]; rfl)) ?_; (with_reducible refine (payofflaw02_own.calls kj3 _ _ l2 t103 _ ?side1 ?side2 A12.out).mono ?_); (case side1 => repeat (first | exact (Kd.C_below HR2.out HB.out) | (with_reducible refine Kd.C_alloc ?_ _) | (with_reducible refine Kd.C_drewN ?_ _) | (with_reducible refine Kd.C_drew ?_))); (case side2 => exact HC2.out); rintro e w19 ⟨v104, rfl, ho0, hb⟩; refine ⟨_, rfl, ?_⟩; have n0_ := Aside0.mk (Kd.R_lower ho0 (below_size (by repeat (first | (with_reducible first | exact HB.out | apply below_alloc | apply pw_below_drewN | apply below_drew1) | exact HB.out)))); have n1_ := Aside0.mk (below_step (by repeat (first | (with_reducible first | exact HB.out | apply below_alloc | apply pw_below_drewN | apply below_drew1) | exact HB.out)) hb); clear HB; have HO105 := n0_; have HB := n1_; clear n0_ n1_; (try clear hb); (try clear hb2); (try clear hk); (try clear hi); (try clear ho0); obtain ⟨Ao20, co20, eo20⟩ := Kd.R_slice HO105.out; subst eo20) | ((with_reducible refine gate_callee (f := 32) rfl ?_); refine goesL_ (some 45) rfl rfl Tryd.func32 (by kernel_rfl) rfl #[.int .i64 a0, .int .i64 a1, .slice Ao20 t103.length co20] rfl (by (try simp only [List.map_toArray, List.map_cons, List.map_nil]); first | done | rfl | (simp only [List.length_drop, List.length_take]; rfl)) ?_; (with_reducible refine (cal_Adjust.calls kj3 a0 a1 _ _ t103 t106 t107 _ ?side1 ?side2 A13.out (by first | exact TabW.below GT.out (by repeat (first | (with_reducible first | exact HB.out | apply below_alloc | apply pw_below_drewN | apply below_drew1 | refine below_set ?_ GE133.out | refine below_set ?_ GE138.out | refine below_set ?_ GE150.out) | exact HB.out)) | (repeat (first | exact GT.out | refine TabW.drewN ?_ _ | refine TabW.drew ?_)))).mono ?_); (case side1 => repeat (first | exact (Kd.R_reads' HO105.out).2.2 | (with_reducible refine Kd.C_alloc ?_ _) | (with_reducible refine Kd.C_drewN ?_ _) | (with_reducible refine Kd.C_drew ?_))); (case side2 => exact (Kd.R_reads' HO105.out).2.1); rintro e w21 ⟨rfl, hb⟩; refine ⟨_, rfl, ?_⟩; have n0_ := Aside0.mk (Kd.R_below (by (with_reducible repeat (first | apply Kd.R_alloc | apply Kd.R_drewN | apply Kd.R_drew)); exact HO105.out) hb); have n1_ := Aside0.mk (below_step (by repeat (first | (with_reducible first | exact HB.out | apply below_alloc | apply pw_below_drewN | apply below_drew1) | exact HB.out)) hb); clear HO105; clear HB; have HO105 := n0_; have HB := n1_; clear n0_ n1_; (try clear hb); (try clear hb2); (try clear hk); (try clear hi)) | ((with_reducible refine gate_callee (f := 17) rfl ?_); refine goesL_ (some 49) rfl rfl Tryd.func17 (by kernel_rfl) rfl #[.int .i64 t107] rfl (by (try simp only [List.map_toArray, List.map_cons, List.map_nil]); first | done | rfl | (simp only [List.length_drop, List.length_take]; rfl)) ?_; (with_reducible refine (payofflaw02_num.calls t107 t108 _ A14.out).mono ?_); rintro e w' ⟨rfl, ⟨nd, rfl⟩⟩; refine ⟨_, rfl, ?_⟩) | ((with_reducible refine gate_callee (f := 30) rfl ?_); refine goesL_ (some 72) rfl rfl Tryd.func30 (by kernel_rfl) rfl #[.slice A2 l2.length c2] rfl (by (try simp only [List.map_toArray, List.map_cons, List.map_nil]); first | done | rfl | (simp only [List.length_drop, List.length_take]; rfl)) ?_; (with_reducible refine (payofflaw02_own.calls kj3 _ _ l2 t115 _ ?side1 ?side2 A16.out).mono ?_); (case side1 => repeat (first | exact (Kd.C_below HR2.out (by repeat (first | (with_reducible first | exact HB.out | apply below_alloc | apply pw_below_drewN | apply below_drew1) | exact HB.out))) | (with_reducible refine Kd.C_alloc ?_ _) | (with_reducible refine Kd.C_drewN ?_ _) | (with_reducible refine Kd.C_drew ?_))); (case side2 => exact HC2.out); rintro e w22 ⟨v116, rfl, ho0, hb⟩; refine ⟨_, rfl, ?_⟩; have n0_ := Aside0.mk (Kd.R_elder' (by (with_reducible repeat (first | apply Kd.R_alloc | apply Kd.R_drewN | apply Kd.R_drew)); exact HO105.out) (Kd.R_base ho0) hb); have n1_ := Aside0.mk (Kd.R_lower (Kd.R_new' ho0 (Kd.R_lt (by (with_reducible repeat (first | apply Kd.R_alloc | apply Kd.R_drewN | apply Kd.R_drew)); exact HO105.out))) (below_size (by repeat (first | (with_reducible first | exact HB.out | apply below_alloc | apply pw_below_drewN | apply below_drew1) | exact HB.out)))); have n2_ := Aside0.mk (below_step (by repeat (first | (with_reducible first | exact HB.out | apply below_alloc | apply pw_below_drewN | apply below_drew1) | exact HB.out)) hb); clear HO105; clear HB; have HO105 := n0_; have HO117 := n1_; have HB := n2_; clear n0_ n1_ n2_; (try clear hb); (try clear hb2); (try clear hk); (try clear hi); (try clear ho0); obtain ⟨Ao23, co23, eo23⟩ := Kd.R_slice HO117.out; subst eo23) | ((with_reducible refine gate_callee (f := 32) rfl ?_); refine goesL_ (some 73) rfl rfl Tryd.func32 (by kernel_rfl) rfl #[.int .i64 t106, .int .i64 a1, .slice Ao23 t115.length co23] rfl (by (try simp only [List.map_toArray, List.map_cons, List.map_nil]); first | done | rfl | (simp only [List.length_drop, List.length_take]; rfl)) ?_; (with_reducible refine (cal_Adjust.calls kj3 t106 a1 _ _ t115 t118 t119 _ ?side1 ?side2 A17.out (by first | exact TabW.below GT.out (by repeat (first | (with_reducible first | exact HB.out | apply below_alloc | apply pw_below_drewN | apply below_drew1 | refine below_set ?_ GE133.out | refine below_set ?_ GE138.out | refine below_set ?_ GE150.out) | exact HB.out)) | (repeat (first | exact GT.out | refine TabW.drewN ?_ _ | refine TabW.drew ?_)))).mono ?_); (case side1 => repeat (first | exact (Kd.R_reads' HO117.out).2.2 | (with_reducible refine Kd.C_alloc ?_ _) | (with_reducible refine Kd.C_drewN ?_ _) | (with_reducible refine Kd.C_drew ?_))); (case side2 => exact (Kd.R_reads' HO117.out).2.1); rintro e w24 ⟨rfl, hb⟩; refine ⟨_, rfl, ?_⟩; have n0_ := Aside0.mk (Kd.R_below (by (with_reducible repeat (first | apply Kd.R_alloc | apply Kd.R_drewN | apply Kd.R_drew)); exact HO105.out) hb); have n1_ := Aside0.mk (Kd.R_below (by (with_reducible repeat (first | apply Kd.R_alloc | apply Kd.R_drewN | apply Kd.R_drew)); exact HO117.out) hb); have n2_ := Aside0.mk (below_step (by repeat (first | (with_reducible first | exact HB.out | apply below_alloc | apply pw_below_drewN | apply below_drew1) | exact HB.out)) hb); clear HO105; clear HO117; clear HB; have HO105 := n0_; have HO117 := n1_; have HB := n2_; clear n0_ n1_ n2_; (try clear hb); (try clear hb2); (try clear hk); (try clear hi)))
            (try simp only [Act.put, List.setIfInBounds_toArray, List.set_cons_zero, List.set_cons_succ])
            go_cut [108] (fun v108 wc => ∃ (kq : Nat) (x108_17 : Bool), v108 = .bool x108_17 ∧ Aside0 (payofflaw02_CalNearest.j1 kq a0 a1 l2 t106 x108_17 = some r) ∧ Aside0 (kq ≤ kj3) ∧ Aside0 (Below w.heap.size w wc))
            case first =>
              have H := HC18.out
              clear HC18
              replace H := Option.bind_eq_some_iff.mp H
              obtain ⟨t120, A250, H⟩ := H
              replace H : (if t120 = 0 then (if t118 = t106 then ((payofflaw02_own.f kj3 l2).bind fun t121 => ((cal_Business.f kj3 t106 t121).bind fun t124 => (if t124 = true then (if a1 = 1 then (if t106 < a0 then (none) else (if a1 = 3 then (none) else (payofflaw02_CalNearest.j1 kj3 a0 a1 l2 t106 false))) else (if a1 = 3 then (payofflaw02_CalNearest.j1 kj3 a0 a1 l2 t106 (decide (t106 > a0))) else (payofflaw02_CalNearest.j1 kj3 a0 a1 l2 t106 false))) else (none)))) else (none)) else (none)) = some r := H
              have A25 := Aside0.mk A250
              clear A250
              by_cases c26 : t120 = 0
              · as_aux_lemma =>
                  rw [if_pos c26] at H
                  have c26b0 : (t120 == 0) = true := beq_iff_eq.mpr c26
                  have c26b1 : (t120 != 0) = false := bne_eq_false_iff_eq.mpr c26
                  clear c26
                  (first | rw [c26b0] | (simp only [i64_w, i32_w]; rw [c26b0]) | skip)
                  by_cases c27 : t118 = t106
                  · as_aux_lemma =>
                      rw [if_pos c27] at H
                      have c27b0 : (t118 == t106) = true := beq_iff_eq.mpr c27
                      have c27b1 : (t118 != t106) = false := bne_eq_false_iff_eq.mpr c27
                      clear c27
                      replace H := Option.bind_eq_some_iff.mp H
                      obtain ⟨t121, A280, H⟩ := H
                      replace H : ((cal_Business.f kj3 t106 t121).bind fun t124 => (if t124 = true then (if a1 = 1 then (if t106 < a0 then (none) else (if a1 = 3 then (none) else (payofflaw02_CalNearest.j1 kj3 a0 a1 l2 t106 false))) else (if a1 = 3 then (payofflaw02_CalNearest.j1 kj3 a0 a1 l2 t106 (decide (t106 > a0))) else (payofflaw02_CalNearest.j1 kj3 a0 a1 l2 t106 false))) else (none))) = some r := H
                      have A28 := Aside0.mk A280
                      clear A280
                      replace H := Option.bind_eq_some_iff.mp H
                      obtain ⟨t124, A290, H⟩ := H
                      replace H : (if t124 = true then (if a1 = 1 then (if t106 < a0 then (none) else (if a1 = 3 then (none) else (payofflaw02_CalNearest.j1 kj3 a0 a1 l2 t106 false))) else (if a1 = 3 then (payofflaw02_CalNearest.j1 kj3 a0 a1 l2 t106 (decide (t106 > a0))) else (payofflaw02_CalNearest.j1 kj3 a0 a1 l2 t106 false))) else (none)) = some r := H
                      have A29 := Aside0.mk A290
                      clear A290
                      by_cases c30 : t124 = true
                      · subst c30
                        have H1 : (if a1 = 1 then (if t106 < a0 then (none) else (if a1 = 3 then (none) else (payofflaw02_CalNearest.j1 kj3 a0 a1 l2 t106 false))) else (if a1 = 3 then (payofflaw02_CalNearest.j1 kj3 a0 a1 l2 t106 (decide (t106 > a0))) else (payofflaw02_CalNearest.j1 kj3 a0 a1 l2 t106 false))) = some r := by rw [if_pos rfl] at H; exact H
                        clear H
                        have H := H1
                        clear H1
                        by_cases c31 : a1 = 1
                        · as_aux_lemma =>
                            rw [if_pos c31] at H
                            have c31b0 : (a1 == 1) = true := beq_iff_eq.mpr c31
                            have c31b1 : (a1 != 1) = false := bne_eq_false_iff_eq.mpr c31
                            clear c31
                            by_cases c32 : t106 < a0
                            · as_aux_lemma =>
                                rw [if_pos c32] at H
                                exact absurd H (by simp)
                            · as_aux_lemma =>
                                rw [if_neg c32] at H
                                have c32b0 : decide (t106 < a0) = false := decide_eq_false c32
                                clear c32
                                by_cases c33 : a1 = 3
                                · as_aux_lemma =>
                                    rw [if_pos c33] at H
                                    exact absurd H (by simp)
                                · as_aux_lemma =>
                                    rw [if_neg c33] at H
                                    have c33b0 : (a1 == 3) = false := beq_eq_false_iff_ne.mpr c33
                                    have c33b1 : (a1 != 3) = true := bne_iff_ne.mpr c33
                                    have H' := Aside0.mk H
                                    clear H
                                    go_wp2_with (first | ((with_reducible refine gate_callee (f := 17) rfl ?_); refine goesL_ (some 77) rfl rfl Tryd.func17 (by kernel_rfl) rfl #[.int .i64 t119] rfl (by (try simp only [List.map_toArray, List.map_cons, List.map_nil]); first | done | rfl | (simp only [List.length_drop, List.length_take]; rfl)) ?_; (with_reducible refine (payofflaw02_num.calls t119 t120 _ A25.out).mono ?_); rintro e w' ⟨rfl, ⟨nd, rfl⟩⟩; refine ⟨_, rfl, ?_⟩) | (go_at_call 30; (with_reducible refine (payofflaw02_own.calls kj3 _ _ l2 t121 _ ?side1 ?side2 A28.out).mono ?_); (case side1 => repeat (first | exact (Kd.C_below HR2.out (by repeat (first | (with_reducible first | exact HB.out | apply below_alloc | apply pw_below_drewN | apply below_drew1) | exact HB.out))) | (with_reducible refine Kd.C_alloc ?_ _) | (with_reducible refine Kd.C_drewN ?_ _) | (with_reducible refine Kd.C_drew ?_))); (case side2 => exact HC2.out); rintro e w34 ⟨v122, rfl, ho0, hb⟩; have n0_ := Aside0.mk (Kd.R_elder' (by (with_reducible repeat (first | apply Kd.R_alloc | apply Kd.R_drewN | apply Kd.R_drew)); exact HO105.out) (Kd.R_base ho0) hb); have n1_ := Aside0.mk (Kd.R_elder' (by (with_reducible repeat (first | apply Kd.R_alloc | apply Kd.R_drewN | apply Kd.R_drew)); exact HO117.out) (Kd.R_base ho0) hb); have n2_ := Aside0.mk (Kd.R_lower (Kd.R_new' (Kd.R_new' ho0 (Kd.R_lt (by (with_reducible repeat (first | apply Kd.R_alloc | apply Kd.R_drewN | apply Kd.R_drew)); exact HO105.out))) (Kd.R_lt (by (with_reducible repeat (first | apply Kd.R_alloc | apply Kd.R_drewN | apply Kd.R_drew)); exact HO117.out))) (below_size (by repeat (first | (with_reducible first | exact HB.out | apply below_alloc | apply pw_below_drewN | apply below_drew1) | exact HB.out)))); have n3_ := Aside0.mk (below_step (by repeat (first | (with_reducible first | exact HB.out | apply below_alloc | apply pw_below_drewN | apply below_drew1) | exact HB.out)) hb); clear HO105; clear HO117; clear HB; have HO105 := n0_; have HO117 := n1_; have HO123 := n2_; have HB := n3_; clear n0_ n1_ n2_ n3_; (try clear hb); (try clear hb2); (try clear hk); (try clear hi); (try clear ho0); obtain ⟨Ao35, co35, eo35⟩ := Kd.R_slice HO123.out; subst eo35) | (go_at_call 31; (with_reducible refine (cal_Business.calls kj3 t106 _ _ t121 true _ ?side1 ?side2 A29.out).mono ?_); (case side1 => repeat (first | exact (Kd.R_reads' HO123.out).2.2 | (with_reducible refine Kd.C_alloc ?_ _) | (with_reducible refine Kd.C_drewN ?_ _) | (with_reducible refine Kd.C_drew ?_))); (case side2 => exact (Kd.R_reads' HO123.out).2.1); rintro e w' ⟨rfl, ⟨nd, rfl⟩⟩))
                                    go_meet
                                    case rel => exact ⟨_, (false), (by first | rfl | (simp; done) | (simp [*]; done)), H', ⟨by have := HJ3.out; first | omega | exact Nat.le_refl _⟩, ⟨by repeat (first | (with_reducible first | exact HB.out | apply below_alloc | apply pw_below_drewN | apply below_drew1) | exact HB.out)⟩⟩
                        · as_aux_lemma =>
                            rw [if_neg c31] at H
                            have c31b0 : (a1 == 1) = false := beq_eq_false_iff_ne.mpr c31
                            have c31b1 : (a1 != 1) = true := bne_iff_ne.mpr c31
                            by_cases c36 : a1 = 3
                            · as_aux_lemma =>
                                rw [if_pos c36] at H
                                have c36b0 : (a1 == 3) = true := beq_iff_eq.mpr c36
                                have c36b1 : (a1 != 3) = false := bne_eq_false_iff_eq.mpr c36
                                clear c36
                                have H' := Aside0.mk H
                                clear H
                                go_wp2_with (first | ((with_reducible refine gate_callee (f := 17) rfl ?_); refine goesL_ (some 77) rfl rfl Tryd.func17 (by kernel_rfl) rfl #[.int .i64 t119] rfl (by (try simp only [List.map_toArray, List.map_cons, List.map_nil]); first | done | rfl | (simp only [List.length_drop, List.length_take]; rfl)) ?_; (with_reducible refine (payofflaw02_num.calls t119 t120 _ A25.out).mono ?_); rintro e w' ⟨rfl, ⟨nd, rfl⟩⟩; refine ⟨_, rfl, ?_⟩) | (go_at_call 30; (with_reducible refine (payofflaw02_own.calls kj3 _ _ l2 t121 _ ?side1 ?side2 A28.out).mono ?_); (case side1 => repeat (first | exact (Kd.C_below HR2.out (by repeat (first | (with_reducible first | exact HB.out | apply below_alloc | apply pw_below_drewN | apply below_drew1) | exact HB.out))) | (with_reducible refine Kd.C_alloc ?_ _) | (with_reducible refine Kd.C_drewN ?_ _) | (with_reducible refine Kd.C_drew ?_))); (case side2 => exact HC2.out); rintro e w37 ⟨v122, rfl, ho0, hb⟩; have n0_ := Aside0.mk (Kd.R_elder' (by (with_reducible repeat (first | apply Kd.R_alloc | apply Kd.R_drewN | apply Kd.R_drew)); exact HO105.out) (Kd.R_base ho0) hb); have n1_ := Aside0.mk (Kd.R_elder' (by (with_reducible repeat (first | apply Kd.R_alloc | apply Kd.R_drewN | apply Kd.R_drew)); exact HO117.out) (Kd.R_base ho0) hb); have n2_ := Aside0.mk (Kd.R_lower (Kd.R_new' (Kd.R_new' ho0 (Kd.R_lt (by (with_reducible repeat (first | apply Kd.R_alloc | apply Kd.R_drewN | apply Kd.R_drew)); exact HO105.out))) (Kd.R_lt (by (with_reducible repeat (first | apply Kd.R_alloc | apply Kd.R_drewN | apply Kd.R_drew)); exact HO117.out))) (below_size (by repeat (first | (with_reducible first | exact HB.out | apply below_alloc | apply pw_below_drewN | apply below_drew1) | exact HB.out)))); have n3_ := Aside0.mk (below_step (by repeat (first | (with_reducible first | exact HB.out | apply below_alloc | apply pw_below_drewN | apply below_drew1) | exact HB.out)) hb); clear HO105; clear HO117; clear HB; have HO105 := n0_; have HO117 := n1_; have HO123 := n2_; have HB := n3_; clear n0_ n1_ n2_ n3_; (try clear hb); (try clear hb2); (try clear hk); (try clear hi); (try clear ho0); obtain ⟨Ao38, co38, eo38⟩ := Kd.R_slice HO123.out; subst eo38) | (go_at_call 31; (with_reducible refine (cal_Business.calls kj3 t106 _ _ t121 true _ ?side1 ?side2 A29.out).mono ?_); (case side1 => repeat (first | exact (Kd.R_reads' HO123.out).2.2 | (with_reducible refine Kd.C_alloc ?_ _) | (with_reducible refine Kd.C_drewN ?_ _) | (with_reducible refine Kd.C_drew ?_))); (case side2 => exact (Kd.R_reads' HO123.out).2.1); rintro e w' ⟨rfl, ⟨nd, rfl⟩⟩))
                                go_meet
                                case rel => exact ⟨_, (decide (t106 > a0)), (by first | rfl | (simp; done) | (simp [*]; done)), H', ⟨by have := HJ3.out; first | omega | exact Nat.le_refl _⟩, ⟨by repeat (first | (with_reducible first | exact HB.out | apply below_alloc | apply pw_below_drewN | apply below_drew1) | exact HB.out)⟩⟩
                            · as_aux_lemma =>
                                rw [if_neg c36] at H
                                have c36b0 : (a1 == 3) = false := beq_eq_false_iff_ne.mpr c36
                                have c36b1 : (a1 != 3) = true := bne_iff_ne.mpr c36
                                have H' := Aside0.mk H
                                clear H
                                go_wp2_with (first | ((with_reducible refine gate_callee (f := 17) rfl ?_); refine goesL_ (some 77) rfl rfl Tryd.func17 (by kernel_rfl) rfl #[.int .i64 t119] rfl (by (try simp only [List.map_toArray, List.map_cons, List.map_nil]); first | done | rfl | (simp only [List.length_drop, List.length_take]; rfl)) ?_; (with_reducible refine (payofflaw02_num.calls t119 t120 _ A25.out).mono ?_); rintro e w' ⟨rfl, ⟨nd, rfl⟩⟩; refine ⟨_, rfl, ?_⟩) | (go_at_call 30; (with_reducible refine (payofflaw02_own.calls kj3 _ _ l2 t121 _ ?side1 ?side2 A28.out).mono ?_); (case side1 => repeat (first | exact (Kd.C_below HR2.out (by repeat (first | (with_reducible first | exact HB.out | apply below_alloc | apply pw_below_drewN | apply below_drew1) | exact HB.out))) | (with_reducible refine Kd.C_alloc ?_ _) | (with_reducible refine Kd.C_drewN ?_ _) | (with_reducible refine Kd.C_drew ?_))); (case side2 => exact HC2.out); rintro e w39 ⟨v122, rfl, ho0, hb⟩; have n0_ := Aside0.mk (Kd.R_elder' (by (with_reducible repeat (first | apply Kd.R_alloc | apply Kd.R_drewN | apply Kd.R_drew)); exact HO105.out) (Kd.R_base ho0) hb); have n1_ := Aside0.mk (Kd.R_elder' (by (with_reducible repeat (first | apply Kd.R_alloc | apply Kd.R_drewN | apply Kd.R_drew)); exact HO117.out) (Kd.R_base ho0) hb); have n2_ := Aside0.mk (Kd.R_lower (Kd.R_new' (Kd.R_new' ho0 (Kd.R_lt (by (with_reducible repeat (first | apply Kd.R_alloc | apply Kd.R_drewN | apply Kd.R_drew)); exact HO105.out))) (Kd.R_lt (by (with_reducible repeat (first | apply Kd.R_alloc | apply Kd.R_drewN | apply Kd.R_drew)); exact HO117.out))) (below_size (by repeat (first | (with_reducible first | exact HB.out | apply below_alloc | apply pw_below_drewN | apply below_drew1) | exact HB.out)))); have n3_ := Aside0.mk (below_step (by repeat (first | (with_reducible first | exact HB.out | apply below_alloc | apply pw_below_drewN | apply below_drew1) | exact HB.out)) hb); clear HO105; clear HO117; clear HB; have HO105 := n0_; have HO117 := n1_; have HO123 := n2_; have HB := n3_; clear n0_ n1_ n2_ n3_; (try clear hb); (try clear hb2); (try clear hk); (try clear hi); (try clear ho0); obtain ⟨Ao40, co40, eo40⟩ := Kd.R_slice HO123.out; subst eo40) | (go_at_call 31; (with_reducible refine (cal_Business.calls kj3 t106 _ _ t121 true _ ?side1 ?side2 A29.out).mono ?_); (case side1 => repeat (first | exact (Kd.R_reads' HO123.out).2.2 | (with_reducible refine Kd.C_alloc ?_ _) | (with_reducible refine Kd.C_drewN ?_ _) | (with_reducible refine Kd.C_drew ?_))); (case side2 => exact (Kd.R_reads' HO123.out).2.1); rintro e w' ⟨rfl, ⟨nd, rfl⟩⟩))
                                go_meet
                                case rel => exact ⟨_, (false), (by first | rfl | (simp; done) | (simp [*]; done)), H', ⟨by have := HJ3.out; first | omega | exact Nat.le_refl _⟩, ⟨by repeat (first | (with_reducible first | exact HB.out | apply below_alloc | apply pw_below_drewN | apply below_drew1) | exact HB.out)⟩⟩
                      · replace c30 := Bool.eq_false_iff.mpr c30
                        subst c30
                        have H1 : (none) = some r := by rw [if_neg (show ¬ (false = true) by decide)] at H; exact H
                        clear H
                        have H := H1
                        clear H1
                        exact absurd H (by simp)
                  · as_aux_lemma =>
                      rw [if_neg c27] at H
                      exact absurd H (by simp)
              · as_aux_lemma =>
                  rw [if_neg c26] at H
                  exact absurd H (by simp)
            case rest =>
              clear HC18
              try clear c1
              try clear c2
              try clear p2
              try clear c3
              try clear c5
              try clear c5b0
              try clear c6
              try clear c6b0
              try clear c7
              try clear c7b0
              try clear c8
              try clear c10
              try clear c10b0
              try clear c10b1
              try clear c10b2
              try clear c12
              try clear c15
              try clear c15b0
              try clear c15b1
              try clear c17
              try clear c26
              try clear c26b0
              try clear c26b1
              try clear c27
              try clear c27b0
              try clear c27b1
              try clear c30
              try clear c31
              try clear c31b0
              try clear c31b1
              try clear c32
              try clear c32b0
              try clear c33
              try clear c33b0
              try clear c33b1
              try clear c36
              try clear c36b0
              try clear c36b1
              try clear p2
              obtain ⟨kq, x108_17, rfl, HA, HJ17, HB⟩ := hcut
              cases kq with
              | zero => exact absurd HA.out (by simp [payofflaw02_CalNearest.j1])
              | succ kj17 =>
                have H := HA.out
                clear HA
                simp only [payofflaw02_CalNearest.j1] at H
                by_cases c41 : x108_17 = true
                · subst c41
                  have H1 : (none) = some r := by rw [if_pos rfl] at H; exact H
                  clear H
                  have H := H1
                  clear H1
                  exact absurd H (by simp)
                · replace c41 := Bool.eq_false_iff.mpr c41
                  subst c41
                  have H1 : (if t106 < a0 then (payofflaw02_CalNearest.j2 kj17 a0 a1 l2 t106 (-1)) else (payofflaw02_CalNearest.j2 kj17 a0 a1 l2 t106 1)) = some r := by rw [if_neg (show ¬ (false = true) by decide)] at H; exact H
                  clear H
                  have H := H1
                  clear H1
                  have HC42 := Aside0.mk H
                  clear H
                  go_upto_if 111 with (fail)
                  go_cut [11] (fun v11 wc => ∃ (kq : Nat) (x11_41 : Int), v11 = .int .i64 x11_41 ∧ Aside0 (payofflaw02_CalNearest.j2 kq a0 a1 l2 t106 x11_41 = some r) ∧ Aside0 (kq ≤ kj17) ∧ Aside0 (Below w.heap.size w wc))
                  case first =>
                    have H := HC42.out
                    clear HC42
                    by_cases c43 : t106 < a0
                    · as_aux_lemma =>
                        rw [if_pos c43] at H
                        have c43b0 : decide (t106 < a0) = true := decide_eq_true c43
                        clear c43
                        (first | rw [c43b0] | (simp only [i64_w, i32_w]; rw [c43b0]) | skip)
                        have H' := Aside0.mk H
                        clear H
                        go_wp2
                        go_meet
                        case rel => exact ⟨_, ((-1)), (by first | rfl | (simp; done) | (simp [*]; done)), H', ⟨by have := HJ3.out; have := HJ17.out; first | omega | exact Nat.le_refl _⟩, ⟨by repeat (first | (with_reducible first | exact HB.out | apply below_alloc | apply pw_below_drewN | apply below_drew1) | exact HB.out)⟩⟩
                    · as_aux_lemma =>
                        rw [if_neg c43] at H
                        have c43b0 : decide (t106 < a0) = false := decide_eq_false c43
                        clear c43
                        (first | rw [c43b0] | (simp only [i64_w, i32_w]; rw [c43b0]) | skip)
                        have H' := Aside0.mk H
                        clear H
                        go_wp2
                        go_meet
                        case rel => exact ⟨_, (1), (by first | rfl | (simp; done) | (simp [*]; done)), H', ⟨by have := HJ3.out; have := HJ17.out; first | omega | exact Nat.le_refl _⟩, ⟨by repeat (first | (with_reducible first | exact HB.out | apply below_alloc | apply pw_below_drewN | apply below_drew1) | exact HB.out)⟩⟩
                  case rest =>
                    clear HC42
                    try clear c1
                    try clear c2
                    try clear p2
                    try clear c3
                    try clear c4
                    try clear c5
                    try clear c5b0
                    try clear c6
                    try clear c6b0
                    try clear c7
                    try clear c7b0
                    try clear c8
                    try clear c10
                    try clear c10b0
                    try clear c10b1
                    try clear c10b2
                    try clear c12
                    try clear c15
                    try clear c15b0
                    try clear c15b1
                    try clear c17
                    try clear c26
                    try clear c26b0
                    try clear c26b1
                    try clear c27
                    try clear c27b0
                    try clear c27b1
                    try clear c30
                    try clear c31
                    try clear c31b0
                    try clear c31b1
                    try clear c32
                    try clear c32b0
                    try clear c33
                    try clear c33b0
                    try clear c33b1
                    try clear c36
                    try clear c36b0
                    try clear c36b1
                    try clear c41
                    try clear c43
                    try clear c43b0
                    try clear p2
                    obtain ⟨kq, x11_41, rfl, HA, HJ41, HB⟩ := hcut
                    cases kq with
                    | zero => exact absurd HA.out (by simp [payofflaw02_CalNearest.j2])
                    | succ kj41 =>
                      have H := HA.out
                      clear HA
                      simp only [payofflaw02_CalNearest.j2] at H
                      have H' := Aside0.mk H
                      clear H
                      go_wp2
                      go_loopg [12] kj41 (fun kq v12 w' => ∃ (x12_4 : Int), v12 = .int .i64 x12_4 ∧ Aside0 (payofflaw02_CalNearest.l0 kq a0 a1 l2 t106 x11_41 x12_4 = some r) ∧ Aside0 (kq ≤ kj41) ∧ Aside0 (Below w.heap.size w w'))
                      case atStart => exact ⟨(a0), (by first | rfl | (simp; done) | (simp [*]; done)), H', ⟨Nat.le_refl _⟩, ⟨by repeat (first | (with_reducible first | exact HB.out | apply below_alloc | apply pw_below_drewN | apply below_drew1) | exact HB.out)⟩⟩
                      case round =>
                        clear H'
                        try clear c1
                        try clear c2
                        try clear p2
                        try clear c3
                        try clear c4
                        try clear c5
                        try clear c5b0
                        try clear c6
                        try clear c6b0
                        try clear c7
                        try clear c7b0
                        try clear c8
                        try clear c10
                        try clear c10b0
                        try clear c10b1
                        try clear c10b2
                        try clear c12
                        try clear c15
                        try clear c15b0
                        try clear c15b1
                        try clear c17
                        try clear c26
                        try clear c26b0
                        try clear c26b1
                        try clear c27
                        try clear c27b0
                        try clear c27b1
                        try clear c30
                        try clear c31
                        try clear c31b0
                        try clear c31b1
                        try clear c32
                        try clear c32b0
                        try clear c33
                        try clear c33b0
                        try clear c33b1
                        try clear c36
                        try clear c36b0
                        try clear c36b1
                        try clear c41
                        try clear c43
                        try clear c43b0
                        try clear p2
                        obtain ⟨x12_4, rfl, HA, HK4, HB⟩ := hrel
                        cases gk with
                        | zero => exact absurd HA.out (by simp [payofflaw02_CalNearest.l0])
                        | succ k4 =>
                          have H := HA.out
                          clear HA
                          simp only [payofflaw02_CalNearest.l0] at H
                          by_cases c44 : x12_4 = t106
                          · as_aux_lemma =>
                              rw [if_pos c44] at H
                              have c44b0 : (x12_4 == t106) = true := beq_iff_eq.mpr c44
                              have c44b1 : (x12_4 != t106) = false := bne_eq_false_iff_eq.mpr c44
                              clear c44
                              replace H := Option.bind_eq_some_iff.mp H
                              obtain ⟨⟨t129, t130, t131, t132⟩, A450, H⟩ := H
                              replace H : ((cal_Date.f k4 a0).bind fun bt134 => ((payofflaw02_num.f t132).bind fun t139 => (if t139 = 0 then ((payofflaw02_num.f bt134.2.2.2).bind fun t140 => (if t140 = 0 then (if a1 = 2 then (payofflaw02_CalNearest.j4 k4 a0 a1 l2 t106 (decide (t106 > a0)) t129 t130 t131 bt134.1 bt134.2.1 bt134.2.2.1) else (payofflaw02_CalNearest.j4 k4 a0 a1 l2 t106 false t129 t130 t131 bt134.1 bt134.2.1 bt134.2.2.1)) else (none))) else (none)))) = some r := H
                              have A45 := Aside0.mk A450
                              clear A450
                              replace H := Option.bind_eq_some_iff.mp H
                              obtain ⟨⟨t134, t135, t136, t137⟩, A460, H⟩ := H
                              replace H : ((payofflaw02_num.f t132).bind fun t139 => (if t139 = 0 then ((payofflaw02_num.f t137).bind fun t140 => (if t140 = 0 then (if a1 = 2 then (payofflaw02_CalNearest.j4 k4 a0 a1 l2 t106 (decide (t106 > a0)) t129 t130 t131 t134 t135 t136) else (payofflaw02_CalNearest.j4 k4 a0 a1 l2 t106 false t129 t130 t131 t134 t135 t136)) else (none))) else (none))) = some r := H
                              have A46 := Aside0.mk A460
                              clear A460
                              replace H := Option.bind_eq_some_iff.mp H
                              obtain ⟨t139, A470, H⟩ := H
                              replace H : (if t139 = 0 then ((payofflaw02_num.f t137).bind fun t140 => (if t140 = 0 then (if a1 = 2 then (payofflaw02_CalNearest.j4 k4 a0 a1 l2 t106 (decide (t106 > a0)) t129 t130 t131 t134 t135 t136) else (payofflaw02_CalNearest.j4 k4 a0 a1 l2 t106 false t129 t130 t131 t134 t135 t136)) else (none))) else (none)) = some r := H
                              have A47 := Aside0.mk A470
                              clear A470
                              by_cases c48 : t139 = 0
                              · as_aux_lemma =>
                                  rw [if_pos c48] at H
                                  have c48b0 : (t139 == 0) = true := beq_iff_eq.mpr c48
                                  have c48b1 : (t139 != 0) = false := bne_eq_false_iff_eq.mpr c48
                                  clear c48
                                  replace H := Option.bind_eq_some_iff.mp H
                                  obtain ⟨t140, A490, H⟩ := H
                                  replace H : (if t140 = 0 then (if a1 = 2 then (payofflaw02_CalNearest.j4 k4 a0 a1 l2 t106 (decide (t106 > a0)) t129 t130 t131 t134 t135 t136) else (payofflaw02_CalNearest.j4 k4 a0 a1 l2 t106 false t129 t130 t131 t134 t135 t136)) else (none)) = some r := H
                                  have A49 := Aside0.mk A490
                                  clear A490
                                  by_cases c50 : t140 = 0
                                  · as_aux_lemma =>
                                      rw [if_pos c50] at H
                                      have c50b0 : (t140 == 0) = true := beq_iff_eq.mpr c50
                                      have c50b1 : (t140 != 0) = false := bne_eq_false_iff_eq.mpr c50
                                      clear c50
                                      have HC51 := Aside0.mk H
                                      clear H
                                      go_upto_region 21 with (first | ((with_reducible refine gate_callee (f := 19) rfl ?_); refine goesL_ (some 125) rfl rfl Tryd.func19 (by kernel_rfl) rfl #[.int .i64 t106] rfl (by (try simp only [List.map_toArray, List.map_cons, List.map_nil]); first | done | rfl | (simp only [List.length_drop, List.length_take]; rfl)) ?_; (with_reducible refine (cal_Date.calls k4 t106 t129 t130 t131 t132 _ A45.out (by first | exact TabW.below GT.out (by repeat (first | (with_reducible first | exact HB.out | apply below_alloc | apply pw_below_drewN | apply below_drew1 | refine below_set ?_ GE133.out | refine below_set ?_ GE138.out | refine below_set ?_ GE150.out) | exact HB.out)) | (repeat (first | exact GT.out | refine TabW.drewN ?_ _ | refine TabW.drew ?_)))).mono ?_); rintro e w52 ⟨rfl, hb⟩; refine ⟨_, rfl, ?_⟩; have n0_ := Aside0.mk (below_step (by repeat (first | (with_reducible first | exact HB.out | apply below_alloc | apply pw_below_drewN | apply below_drew1) | exact HB.out)) hb); clear HB; have HB := n0_; clear n0_; (try clear hb); (try clear hb2); (try clear hk); (try clear hi)) | ((with_reducible refine gate_dst (N := 13) rfl ?_); refine box_event ?hg (N := 13) ?hd (cs := #[.int .i64 0, .int .i64 0, .int .i64 0]) (t := 23) ?hr ?_; (case hd => rfl); (case hg => rfl); (case hr => first | (go_simp; done) | (go_simp; rfl)); intro gb133 hg w53 hbox hb; have n0_ := Aside0.mk (below_step (by repeat (first | (with_reducible first | exact HB.out | apply below_alloc | apply pw_below_drewN | apply below_drew1) | exact HB.out)) hb); have n1_ := Aside0.mk (hbox); have n2_ := Aside0.mk ((by rw [hg]; exact (below_size (by repeat (first | (with_reducible first | exact HB.out | apply below_alloc | apply pw_below_drewN | apply below_drew1) | exact HB.out))) : w.heap.size ≤ gb133)); have n3_ := Aside0.mk ((by rw [hg]; exact (below_size (by repeat (first | (with_reducible first | exact HB.out | apply below_alloc | apply pw_below_drewN | apply below_drew1) | exact HB.out))) : w.heap.size ≤ gb133)); clear HB; have HB := n0_; have BK133 := n1_; have GW133 := n2_; have GE133 := n3_; clear n0_ n1_ n2_ n3_; clear hb hbox hg; have hcz54_0 : w53.cell? ⟨gb133, 0, none⟩ = some (.int .i64 0) := (blk_cell BK133.out 0).trans rfl; have hcz54_1 : w53.cell? ⟨gb133, 1, none⟩ = some (.int .i64 0) := (blk_cell BK133.out 1).trans rfl; have hcz54_2 : w53.cell? ⟨gb133, 2, none⟩ = some (.int .i64 0) := (blk_cell BK133.out 2).trans rfl; have hfz54_0 := blk_frozen BK133.out 0; have hfz54_1 := blk_frozen BK133.out 1; have hfz54_2 := blk_frozen BK133.out 2) | ((with_reducible refine gate_callee (f := 19) rfl ?_); refine goesL_ (some 130) rfl rfl Tryd.func19 (by kernel_rfl) rfl #[.int .i64 a0] rfl (by (try simp only [List.map_toArray, List.map_cons, List.map_nil]); first | done | rfl | (simp only [List.length_drop, List.length_take]; rfl)) ?_; (with_reducible refine (cal_Date.calls k4 a0 t134 t135 t136 t137 _ A46.out (by first | exact TabW.below GT.out (by repeat (first | (with_reducible first | exact HB.out | apply below_alloc | apply pw_below_drewN | apply below_drew1 | refine below_set ?_ GE133.out | refine below_set ?_ GE138.out | refine below_set ?_ GE150.out) | exact HB.out)) | (repeat (first | exact GT.out | refine TabW.drewN ?_ _ | refine TabW.drew ?_)))).mono ?_); rintro e w55 ⟨rfl, hb⟩; refine ⟨_, rfl, ?_⟩; have n0_ := Aside0.mk (blk_below (g := gb133) (o := .cells #[.int .i64 t129, .int .i64 t130, .int .i64 t131] 23 (0, 0)) (by (with_reducible repeat (first | refine blk_drewN ?_ _ | refine blk_drew ?_ | refine blk_alloc ?_ _)); refine blk_put (cs := #[.int .i64 t129, .int .i64 t130, .int .i64 0]) ?_ 2 _ rfl; (with_reducible repeat (first | refine blk_drewN ?_ _ | refine blk_drew ?_ | refine blk_alloc ?_ _)); refine blk_put (cs := #[.int .i64 t129, .int .i64 0, .int .i64 0]) ?_ 1 _ rfl; (with_reducible repeat (first | refine blk_drewN ?_ _ | refine blk_drew ?_ | refine blk_alloc ?_ _)); refine blk_put (cs := #[.int .i64 0, .int .i64 0, .int .i64 0]) ?_ 0 _ rfl; (with_reducible repeat (first | refine blk_drewN ?_ _ | refine blk_drew ?_ | refine blk_alloc ?_ _)); exact BK133.out) hb); have n1_ := Aside0.mk (below_step (by repeat (first | (with_reducible first | exact HB.out | apply below_alloc | apply pw_below_drewN | apply below_drew1 | refine below_set ?_ GE133.out) | exact HB.out)) hb); clear BK133; clear HB; have BK133 := n0_; have HB := n1_; clear n0_ n1_; (try clear hb); (try clear hb2); (try clear hk); (try clear hi)) | ((with_reducible refine gate_dst (N := 15) rfl ?_); refine box_event ?hg (N := 15) ?hd (cs := #[.int .i64 0, .int .i64 0, .int .i64 0]) (t := 23) ?hr ?_; (case hd => rfl); (case hg => rfl); (case hr => first | (go_simp; done) | (go_simp; rfl)); intro gb138 hg w56 hbox hb; have n0_ := Aside0.mk (blk_below (g := gb133) (o := .cells #[.int .i64 t129, .int .i64 t130, .int .i64 t131] 23 (0, 0)) (by (with_reducible repeat (first | refine blk_drewN ?_ _ | refine blk_drew ?_ | refine blk_alloc ?_ _)); exact BK133.out) hb); have n1_ := Aside0.mk (below_step (by repeat (first | (with_reducible first | exact HB.out | apply below_alloc | apply pw_below_drewN | apply below_drew1 | refine below_set ?_ GE133.out) | exact HB.out)) hb); have n2_ := Aside0.mk (hbox); have n3_ := Aside0.mk ((by rw [hg]; exact (below_size (by repeat (first | (with_reducible first | exact HB.out | apply below_alloc | apply pw_below_drewN | apply below_drew1 | refine below_set ?_ GE133.out) | exact HB.out))) : w.heap.size ≤ gb138)); have n4_ := Aside0.mk ((by rw [hg]; exact (below_size (by repeat (first | (with_reducible first | exact HB.out | apply below_alloc | apply pw_below_drewN | apply below_drew1 | refine below_set ?_ GE133.out) | exact HB.out))) : w.heap.size ≤ gb138)); have n5_ := Aside0.mk ((by rw [hg]; exact Nat.ne_of_lt (blk_lt (g := gb133) (o := .cells #[.int .i64 t129, .int .i64 t130, .int .i64 t131] 23 (0, 0)) (by (with_reducible repeat (first | refine blk_drewN ?_ _ | refine blk_drew ?_ | refine blk_alloc ?_ _)); exact BK133.out)) : gb133 ≠ gb138)); have n6_ := Aside0.mk ((by rw [hg]; exact Nat.ne_of_gt (blk_lt (g := gb133) (o := .cells #[.int .i64 t129, .int .i64 t130, .int .i64 t131] 23 (0, 0)) (by (with_reducible repeat (first | refine blk_drewN ?_ _ | refine blk_drew ?_ | refine blk_alloc ?_ _)); exact BK133.out)) : gb138 ≠ gb133)); clear BK133; clear HB; have BK133 := n0_; have HB := n1_; have BK138 := n2_; have GW138 := n3_; have GE138 := n4_; have NB133_138 := n5_; have NB138_133 := n6_; clear n0_ n1_ n2_ n3_ n4_ n5_ n6_; clear hb hbox hg; have hnb57 := NB138_133.out; have hnc57 := NB133_138.out; have hcz58_0 : w56.cell? ⟨gb138, 0, none⟩ = some (.int .i64 0) := (blk_cell BK138.out 0).trans rfl; have hcz58_1 : w56.cell? ⟨gb138, 1, none⟩ = some (.int .i64 0) := (blk_cell BK138.out 1).trans rfl; have hcz58_2 : w56.cell? ⟨gb138, 2, none⟩ = some (.int .i64 0) := (blk_cell BK138.out 2).trans rfl; have hfz58_0 := blk_frozen BK138.out 0; have hfz58_1 := blk_frozen BK138.out 1; have hfz58_2 := blk_frozen BK138.out 2) | ((with_reducible refine gate_callee (f := 17) rfl ?_); refine goesL_ (some 134) rfl rfl Tryd.func17 (by kernel_rfl) rfl #[.int .i64 t132] rfl (by (try simp only [List.map_toArray, List.map_cons, List.map_nil]); first | done | rfl | (simp only [List.length_drop, List.length_take]; rfl)) ?_; (with_reducible refine (payofflaw02_num.calls t132 t139 _ A47.out).mono ?_); rintro e w' ⟨rfl, ⟨nd, rfl⟩⟩; refine ⟨_, rfl, ?_⟩) | (go_at_call 17; (with_reducible refine (payofflaw02_num.calls t137 t140 _ A49.out).mono ?_); rintro e w' ⟨rfl, ⟨nd, rfl⟩⟩))
                                      (try simp only [Act.put, List.setIfInBounds_toArray, List.set_cons_zero, List.set_cons_succ])
                                      go_cut [147] (fun v147 wc => ∃ (kq : Nat) (x147_50 : Bool), v147 = .bool x147_50 ∧ Aside0 (payofflaw02_CalNearest.j4 kq a0 a1 l2 t106 x147_50 t129 t130 t131 t134 t135 t136 = some r) ∧ Aside0 (kq ≤ k4) ∧ Aside0 (wc.heap[gb133]? = some (.cells #[.int .i64 t129, .int .i64 t130, .int .i64 t131] 23 (0, 0))) ∧ Aside0 (wc.heap[gb138]? = some (.cells #[.int .i64 t134, .int .i64 t135, .int .i64 t136] 23 (0, 0))) ∧ Aside0 (Below w.heap.size w wc))
                                      case first =>
                                        have H := HC51.out
                                        clear HC51
                                        by_cases c59 : a1 = 2
                                        · as_aux_lemma =>
                                            rw [if_pos c59] at H
                                            have c59b0 : (a1 == 2) = true := beq_iff_eq.mpr c59
                                            have c59b1 : (a1 != 2) = false := bne_eq_false_iff_eq.mpr c59
                                            clear c59
                                            (first | rw [c59b0] | (simp only [i64_w, i32_w]; rw [c59b0]) | skip)
                                            have H' := Aside0.mk H
                                            clear H
                                            go_wp2
                                            go_meet
                                            case rel => exact ⟨_, (decide (t106 > a0)), (by first | rfl | (simp; done) | (simp [*]; done)), H', ⟨by have := HJ3.out; have := HJ17.out; have := HJ41.out; have := HK4.out; first | omega | exact Nat.le_refl _⟩, ⟨by (with_reducible repeat (first | refine blk_drewN ?_ _ | refine blk_drew ?_ | refine blk_alloc ?_ _)); refine blk_far ?_ NB133_138.out _; (with_reducible repeat (first | refine blk_drewN ?_ _ | refine blk_drew ?_ | refine blk_alloc ?_ _)); refine blk_far ?_ NB133_138.out _; (with_reducible repeat (first | refine blk_drewN ?_ _ | refine blk_drew ?_ | refine blk_alloc ?_ _)); refine blk_far ?_ NB133_138.out _; (with_reducible repeat (first | refine blk_drewN ?_ _ | refine blk_drew ?_ | refine blk_alloc ?_ _)); exact BK133.out⟩, ⟨by (with_reducible repeat (first | refine blk_drewN ?_ _ | refine blk_drew ?_ | refine blk_alloc ?_ _)); refine blk_put (cs := #[.int .i64 t134, .int .i64 t135, .int .i64 0]) ?_ 2 _ rfl; (with_reducible repeat (first | refine blk_drewN ?_ _ | refine blk_drew ?_ | refine blk_alloc ?_ _)); refine blk_put (cs := #[.int .i64 t134, .int .i64 0, .int .i64 0]) ?_ 1 _ rfl; (with_reducible repeat (first | refine blk_drewN ?_ _ | refine blk_drew ?_ | refine blk_alloc ?_ _)); refine blk_put (cs := #[.int .i64 0, .int .i64 0, .int .i64 0]) ?_ 0 _ rfl; (with_reducible repeat (first | refine blk_drewN ?_ _ | refine blk_drew ?_ | refine blk_alloc ?_ _)); exact BK138.out⟩, ⟨by repeat (first | (with_reducible first | exact HB.out | apply below_alloc | apply pw_below_drewN | apply below_drew1 | refine below_set ?_ GE133.out | refine below_set ?_ GE138.out) | exact HB.out)⟩⟩
                                        · as_aux_lemma =>
                                            rw [if_neg c59] at H
                                            have c59b0 : (a1 == 2) = false := beq_eq_false_iff_ne.mpr c59
                                            have c59b1 : (a1 != 2) = true := bne_iff_ne.mpr c59
                                            (first | rw [c59b0] | (simp only [i64_w, i32_w]; rw [c59b0]) | skip)
                                            have H' := Aside0.mk H
                                            clear H
                                            go_wp2
                                            go_meet
                                            case rel => exact ⟨_, (false), (by first | rfl | (simp; done) | (simp [*]; done)), H', ⟨by have := HJ3.out; have := HJ17.out; have := HJ41.out; have := HK4.out; first | omega | exact Nat.le_refl _⟩, ⟨by (with_reducible repeat (first | refine blk_drewN ?_ _ | refine blk_drew ?_ | refine blk_alloc ?_ _)); refine blk_far ?_ NB133_138.out _; (with_reducible repeat (first | refine blk_drewN ?_ _ | refine blk_drew ?_ | refine blk_alloc ?_ _)); refine blk_far ?_ NB133_138.out _; (with_reducible repeat (first | refine blk_drewN ?_ _ | refine blk_drew ?_ | refine blk_alloc ?_ _)); refine blk_far ?_ NB133_138.out _; (with_reducible repeat (first | refine blk_drewN ?_ _ | refine blk_drew ?_ | refine blk_alloc ?_ _)); exact BK133.out⟩, ⟨by (with_reducible repeat (first | refine blk_drewN ?_ _ | refine blk_drew ?_ | refine blk_alloc ?_ _)); refine blk_put (cs := #[.int .i64 t134, .int .i64 t135, .int .i64 0]) ?_ 2 _ rfl; (with_reducible repeat (first | refine blk_drewN ?_ _ | refine blk_drew ?_ | refine blk_alloc ?_ _)); refine blk_put (cs := #[.int .i64 t134, .int .i64 0, .int .i64 0]) ?_ 1 _ rfl; (with_reducible repeat (first | refine blk_drewN ?_ _ | refine blk_drew ?_ | refine blk_alloc ?_ _)); refine blk_put (cs := #[.int .i64 0, .int .i64 0, .int .i64 0]) ?_ 0 _ rfl; (with_reducible repeat (first | refine blk_drewN ?_ _ | refine blk_drew ?_ | refine blk_alloc ?_ _)); exact BK138.out⟩, ⟨by repeat (first | (with_reducible first | exact HB.out | apply below_alloc | apply pw_below_drewN | apply below_drew1 | refine below_set ?_ GE133.out | refine below_set ?_ GE138.out) | exact HB.out)⟩⟩
                                      case rest =>
                                        clear HC51
                                        try clear c1
                                        try clear c2
                                        try clear p2
                                        try clear c3
                                        try clear c4
                                        try clear c5
                                        try clear c5b0
                                        try clear c6
                                        try clear c6b0
                                        try clear c7
                                        try clear c7b0
                                        try clear c8
                                        try clear c10
                                        try clear c10b0
                                        try clear c10b1
                                        try clear c10b2
                                        try clear c12
                                        try clear c15
                                        try clear c15b0
                                        try clear c15b1
                                        try clear c17
                                        try clear c19
                                        try clear c26
                                        try clear c26b0
                                        try clear c26b1
                                        try clear c27
                                        try clear c27b0
                                        try clear c27b1
                                        try clear c30
                                        try clear c31
                                        try clear c31b0
                                        try clear c31b1
                                        try clear c32
                                        try clear c32b0
                                        try clear c33
                                        try clear c33b0
                                        try clear c33b1
                                        try clear c36
                                        try clear c36b0
                                        try clear c36b1
                                        try clear c41
                                        try clear c43
                                        try clear c43b0
                                        try clear c44
                                        try clear c44b0
                                        try clear c44b1
                                        try clear c48
                                        try clear c48b0
                                        try clear c48b1
                                        try clear c50
                                        try clear c50b0
                                        try clear c50b1
                                        try clear c57
                                        try clear c59
                                        try clear c59b0
                                        try clear c59b1
                                        try clear hcz54_0
                                        try clear hcz54_1
                                        try clear hcz54_2
                                        try clear hcz58_0
                                        try clear hcz58_1
                                        try clear hcz58_2
                                        try clear hfz54_0
                                        try clear hfz54_1
                                        try clear hfz54_2
                                        try clear hfz58_0
                                        try clear hfz58_1
                                        try clear hfz58_2
                                        try clear p2
                                        obtain ⟨kq, x147_50, rfl, HA, HJ50, BK133, BK138, HB⟩ := hcut
                                        cases kq with
                                        | zero => exact absurd HA.out (by simp [payofflaw02_CalNearest.j4])
                                        | succ kj50 =>
                                          have H := HA.out
                                          clear HA
                                          simp only [payofflaw02_CalNearest.j4] at H
                                          by_cases c60 : x147_50 = true
                                          · subst c60
                                            have H1 : (if t129 = t134 then (some (t130 == t135)) else (none)) = some r := by rw [if_pos rfl] at H; exact H
                                            clear H
                                            have H := H1
                                            clear H1
                                            by_cases c61 : t129 = t134
                                            · as_aux_lemma =>
                                                rw [if_pos c61] at H
                                                have c61b0 : (t129 == t134) = true := beq_iff_eq.mpr c61
                                                have c61b1 : (t129 != t134) = false := bne_eq_false_iff_eq.mpr c61
                                                clear c61
                                                obtain rfl := Option.some.inj H
                                                have hnb62 := NB133_138.out
                                                have hnc62 := NB138_133.out
                                                have hcz63_0 : wc.cell? ⟨gb133, 0, none⟩ = some (.int .i64 t129) := (blk_cell BK133.out 0).trans rfl
                                                have hcz63_1 : wc.cell? ⟨gb133, 1, none⟩ = some (.int .i64 t130) := (blk_cell BK133.out 1).trans rfl
                                                have hcz63_2 : wc.cell? ⟨gb133, 2, none⟩ = some (.int .i64 t131) := (blk_cell BK133.out 2).trans rfl
                                                have hfz63_0 := blk_frozen BK133.out 0
                                                have hfz63_1 := blk_frozen BK133.out 1
                                                have hfz63_2 := blk_frozen BK133.out 2
                                                have hcz64_0 : wc.cell? ⟨gb138, 0, none⟩ = some (.int .i64 t134) := (blk_cell BK138.out 0).trans rfl
                                                have hcz64_1 : wc.cell? ⟨gb138, 1, none⟩ = some (.int .i64 t135) := (blk_cell BK138.out 1).trans rfl
                                                have hcz64_2 : wc.cell? ⟨gb138, 2, none⟩ = some (.int .i64 t136) := (blk_cell BK138.out 2).trans rfl
                                                have hfz64_0 := blk_frozen BK138.out 0
                                                have hfz64_1 := blk_frozen BK138.out 1
                                                have hfz64_2 := blk_frozen BK138.out 2
                                                go_wp2
                                                go_ret
                                                exact ⟨by first | rfl | (simp [errW_none, errW_some] <;> rfl) | (simp [*, errW_none, errW_some] <;> rfl), by repeat (first | (with_reducible first | exact HB.out | apply below_alloc | apply pw_below_drewN | apply below_drew1 | refine below_set ?_ GE133.out | refine below_set ?_ GE138.out) | exact HB.out)⟩
                                            · as_aux_lemma =>
                                                rw [if_neg c61] at H
                                                exact absurd H (by simp)
                                          · replace c60 := Bool.eq_false_iff.mpr c60
                                            subst c60
                                            have H1 : (if a1 = 2 then (payofflaw02_CalNearest.j5 kj50 a0 l2 (decide (t106 < a0)) t134 t135 t136) else (payofflaw02_CalNearest.j5 kj50 a0 l2 false t134 t135 t136)) = some r := by rw [if_neg (show ¬ (false = true) by decide)] at H; exact H
                                            clear H
                                            have H := H1
                                            clear H1
                                            have HC65 := Aside0.mk H
                                            clear H
                                            go_upto_region 23 with (fail)
                                            go_cut [166] (fun v166 wc => ∃ (kq : Nat) (x166_64 : Bool), v166 = .bool x166_64 ∧ Aside0 (payofflaw02_CalNearest.j5 kq a0 l2 x166_64 t134 t135 t136 = some r) ∧ Aside0 (kq ≤ kj50) ∧ Aside0 (wc.heap[gb133]? = some (.cells #[.int .i64 t129, .int .i64 t130, .int .i64 t131] 23 (0, 0))) ∧ Aside0 (wc.heap[gb138]? = some (.cells #[.int .i64 t134, .int .i64 t135, .int .i64 t136] 23 (0, 0))) ∧ Aside0 (Below w.heap.size w wc))
                                            case first =>
                                              have H := HC65.out
                                              clear HC65
                                              by_cases c66 : a1 = 2
                                              · as_aux_lemma =>
                                                  rw [if_pos c66] at H
                                                  have c66b0 : (a1 == 2) = true := beq_iff_eq.mpr c66
                                                  have c66b1 : (a1 != 2) = false := bne_eq_false_iff_eq.mpr c66
                                                  clear c66
                                                  (first | rw [c66b0] | (simp only [i64_w, i32_w]; rw [c66b0]) | skip)
                                                  have H' := Aside0.mk H
                                                  clear H
                                                  go_wp2
                                                  go_meet
                                                  case rel => exact ⟨_, (decide (t106 < a0)), (by first | rfl | (simp; done) | (simp [*]; done)), H', ⟨by have := HJ3.out; have := HJ17.out; have := HJ41.out; have := HK4.out; have := HJ50.out; first | omega | exact Nat.le_refl _⟩, ⟨by (with_reducible repeat (first | refine blk_drewN ?_ _ | refine blk_drew ?_ | refine blk_alloc ?_ _)); exact BK133.out⟩, ⟨by (with_reducible repeat (first | refine blk_drewN ?_ _ | refine blk_drew ?_ | refine blk_alloc ?_ _)); exact BK138.out⟩, ⟨by repeat (first | (with_reducible first | exact HB.out | apply below_alloc | apply pw_below_drewN | apply below_drew1 | refine below_set ?_ GE133.out | refine below_set ?_ GE138.out) | exact HB.out)⟩⟩
                                              · as_aux_lemma =>
                                                  rw [if_neg c66] at H
                                                  have c66b0 : (a1 == 2) = false := beq_eq_false_iff_ne.mpr c66
                                                  have c66b1 : (a1 != 2) = true := bne_iff_ne.mpr c66
                                                  (first | rw [c66b0] | (simp only [i64_w, i32_w]; rw [c66b0]) | skip)
                                                  have H' := Aside0.mk H
                                                  clear H
                                                  go_wp2
                                                  go_meet
                                                  case rel => exact ⟨_, (false), (by first | rfl | (simp; done) | (simp [*]; done)), H', ⟨by have := HJ3.out; have := HJ17.out; have := HJ41.out; have := HK4.out; have := HJ50.out; first | omega | exact Nat.le_refl _⟩, ⟨by (with_reducible repeat (first | refine blk_drewN ?_ _ | refine blk_drew ?_ | refine blk_alloc ?_ _)); exact BK133.out⟩, ⟨by (with_reducible repeat (first | refine blk_drewN ?_ _ | refine blk_drew ?_ | refine blk_alloc ?_ _)); exact BK138.out⟩, ⟨by repeat (first | (with_reducible first | exact HB.out | apply below_alloc | apply pw_below_drewN | apply below_drew1 | refine below_set ?_ GE133.out | refine below_set ?_ GE138.out) | exact HB.out)⟩⟩
                                            case rest =>
                                              clear HC65
                                              try clear c1
                                              try clear c2
                                              try clear p2
                                              try clear c3
                                              try clear c4
                                              try clear c5
                                              try clear c5b0
                                              try clear c6
                                              try clear c6b0
                                              try clear c7
                                              try clear c7b0
                                              try clear c8
                                              try clear c10
                                              try clear c10b0
                                              try clear c10b1
                                              try clear c10b2
                                              try clear c12
                                              try clear c15
                                              try clear c15b0
                                              try clear c15b1
                                              try clear c17
                                              try clear c19
                                              try clear c26
                                              try clear c26b0
                                              try clear c26b1
                                              try clear c27
                                              try clear c27b0
                                              try clear c27b1
                                              try clear c30
                                              try clear c31
                                              try clear c31b0
                                              try clear c31b1
                                              try clear c32
                                              try clear c32b0
                                              try clear c33
                                              try clear c33b0
                                              try clear c33b1
                                              try clear c36
                                              try clear c36b0
                                              try clear c36b1
                                              try clear c41
                                              try clear c43
                                              try clear c43b0
                                              try clear c44
                                              try clear c44b0
                                              try clear c44b1
                                              try clear c48
                                              try clear c48b0
                                              try clear c48b1
                                              try clear c50
                                              try clear c50b0
                                              try clear c50b1
                                              try clear c57
                                              try clear c59
                                              try clear c59b0
                                              try clear c59b1
                                              try clear c60
                                              try clear c61
                                              try clear c61b0
                                              try clear c61b1
                                              try clear c62
                                              try clear c66
                                              try clear c66b0
                                              try clear c66b1
                                              try clear hcz54_0
                                              try clear hcz54_1
                                              try clear hcz54_2
                                              try clear hcz58_0
                                              try clear hcz58_1
                                              try clear hcz58_2
                                              try clear hcz63_0
                                              try clear hcz63_1
                                              try clear hcz63_2
                                              try clear hcz64_0
                                              try clear hcz64_1
                                              try clear hcz64_2
                                              try clear hfz54_0
                                              try clear hfz54_1
                                              try clear hfz54_2
                                              try clear hfz58_0
                                              try clear hfz58_1
                                              try clear hfz58_2
                                              try clear hfz63_0
                                              try clear hfz63_1
                                              try clear hfz63_2
                                              try clear hfz64_0
                                              try clear hfz64_1
                                              try clear hfz64_2
                                              try clear p2
                                              obtain ⟨kq, x166_64, rfl, HA, HJ64, BK133, BK138, HB⟩ := hcut
                                              cases kq with
                                              | zero => exact absurd HA.out (by simp [payofflaw02_CalNearest.j5])
                                              | succ kj64 =>
                                                have H := HA.out
                                                clear HA
                                                simp only [payofflaw02_CalNearest.j5] at H
                                                by_cases c67 : x166_64 = true
                                                · subst c67
                                                  have H1 : ((payofflaw02_own.f kj64 l2).bind fun t141 => ((cal_Adjust.f kj64 a0 1 t141).bind fun bt144 => ((cal_Date.f kj64 bt144.1).bind fun bt146 => ((payofflaw02_num.f bt144.2).bind fun t151 => (if t151 = 0 then (if bt146.1 = t134 then (some (bt146.2.1 != t135)) else (some true)) else (some true)))))) = some r := by rw [if_pos rfl] at H; exact H
                                                  clear H
                                                  have H := H1
                                                  clear H1
                                                  replace H := Option.bind_eq_some_iff.mp H
                                                  obtain ⟨t141, A680, H⟩ := H
                                                  replace H : ((cal_Adjust.f kj64 a0 1 t141).bind fun bt144 => ((cal_Date.f kj64 bt144.1).bind fun bt146 => ((payofflaw02_num.f bt144.2).bind fun t151 => (if t151 = 0 then (if bt146.1 = t134 then (some (bt146.2.1 != t135)) else (some true)) else (some true))))) = some r := H
                                                  have A68 := Aside0.mk A680
                                                  clear A680
                                                  replace H := Option.bind_eq_some_iff.mp H
                                                  obtain ⟨⟨t144, t145⟩, A690, H⟩ := H
                                                  replace H : ((cal_Date.f kj64 t144).bind fun bt146 => ((payofflaw02_num.f t145).bind fun t151 => (if t151 = 0 then (if bt146.1 = t134 then (some (bt146.2.1 != t135)) else (some true)) else (some true)))) = some r := H
                                                  have A69 := Aside0.mk A690
                                                  clear A690
                                                  replace H := Option.bind_eq_some_iff.mp H
                                                  obtain ⟨⟨t146, t147, t148, t149⟩, A700, H⟩ := H
                                                  replace H : ((payofflaw02_num.f t145).bind fun t151 => (if t151 = 0 then (if t146 = t134 then (some (t147 != t135)) else (some true)) else (some true))) = some r := H
                                                  have A70 := Aside0.mk A700
                                                  clear A700
                                                  replace H := Option.bind_eq_some_iff.mp H
                                                  obtain ⟨t151, A710, H⟩ := H
                                                  replace H : (if t151 = 0 then (if t146 = t134 then (some (t147 != t135)) else (some true)) else (some true)) = some r := H
                                                  have A71 := Aside0.mk A710
                                                  clear A710
                                                  by_cases c72 : t151 = 0
                                                  · as_aux_lemma =>
                                                      rw [if_pos c72] at H
                                                      have c72b0 : (t151 == 0) = true := beq_iff_eq.mpr c72
                                                      have c72b1 : (t151 != 0) = false := bne_eq_false_iff_eq.mpr c72
                                                      clear c72
                                                      by_cases c73 : t146 = t134
                                                      · as_aux_lemma =>
                                                          rw [if_pos c73] at H
                                                          have c73b0 : (t146 == t134) = true := beq_iff_eq.mpr c73
                                                          have c73b1 : (t146 != t134) = false := bne_eq_false_iff_eq.mpr c73
                                                          clear c73
                                                          obtain rfl := Option.some.inj H
                                                          go_wp2_with (first | ((with_reducible refine gate_callee (f := 30) rfl ?_); refine goesL_ (some 170) rfl rfl Tryd.func30 (by kernel_rfl) rfl #[.slice A2 l2.length c2] rfl (by (try simp only [List.map_toArray, List.map_cons, List.map_nil]); first | done | rfl | (simp only [List.length_drop, List.length_take]; rfl)) ?_; (with_reducible refine (payofflaw02_own.calls kj64 _ _ l2 t141 _ ?side1 ?side2 A68.out).mono ?_); (case side1 => repeat (first | exact (Kd.C_below HR2.out HB.out) | (with_reducible refine Kd.C_alloc ?_ _) | (with_reducible refine Kd.C_drewN ?_ _) | (with_reducible refine Kd.C_drew ?_))); (case side2 => exact HC2.out); rintro e w74 ⟨v142, rfl, ho0, hb⟩; refine ⟨_, rfl, ?_⟩; have n0_ := Aside0.mk (Kd.R_lower ho0 (below_size (by repeat (first | (with_reducible first | exact HB.out | apply below_alloc | apply pw_below_drewN | apply below_drew1 | refine below_set ?_ GE133.out | refine below_set ?_ GE138.out) | exact HB.out)))); have n1_ := Aside0.mk (blk_below (g := gb133) (o := .cells #[.int .i64 t129, .int .i64 t130, .int .i64 t131] 23 (0, 0)) (by (with_reducible repeat (first | refine blk_drewN ?_ _ | refine blk_drew ?_ | refine blk_alloc ?_ _)); exact BK133.out) hb); have n2_ := Aside0.mk (blk_below (g := gb138) (o := .cells #[.int .i64 t134, .int .i64 t135, .int .i64 t136] 23 (0, 0)) (by (with_reducible repeat (first | refine blk_drewN ?_ _ | refine blk_drew ?_ | refine blk_alloc ?_ _)); exact BK138.out) hb); have n3_ := Aside0.mk (below_step (by repeat (first | (with_reducible first | exact HB.out | apply below_alloc | apply pw_below_drewN | apply below_drew1 | refine below_set ?_ GE133.out | refine below_set ?_ GE138.out) | exact HB.out)) hb); clear BK133; clear BK138; clear HB; have HO143 := n0_; have BK133 := n1_; have BK138 := n2_; have HB := n3_; clear n0_ n1_ n2_ n3_; (try clear hb); (try clear hb2); (try clear hk); (try clear hi); (try clear ho0); obtain ⟨Ao75, co75, eo75⟩ := Kd.R_slice HO143.out; subst eo75) | ((with_reducible refine gate_callee (f := 32) rfl ?_); refine goesL_ (some 171) rfl rfl Tryd.func32 (by kernel_rfl) rfl #[.int .i64 a0, .int .i64 1, .slice Ao75 t141.length co75] rfl (by (try simp only [List.map_toArray, List.map_cons, List.map_nil]); first | done | rfl | (simp only [List.length_drop, List.length_take]; rfl)) ?_; (with_reducible refine (cal_Adjust.calls kj64 a0 1 _ _ t141 t144 t145 _ ?side1 ?side2 A69.out (by first | exact TabW.below GT.out (by repeat (first | (with_reducible first | exact HB.out | apply below_alloc | apply pw_below_drewN | apply below_drew1 | refine below_set ?_ GE133.out | refine below_set ?_ GE138.out | refine below_set ?_ GE150.out) | exact HB.out)) | (repeat (first | exact GT.out | refine TabW.drewN ?_ _ | refine TabW.drew ?_)))).mono ?_); (case side1 => repeat (first | exact (Kd.R_reads' HO143.out).2.2 | (with_reducible refine Kd.C_alloc ?_ _) | (with_reducible refine Kd.C_drewN ?_ _) | (with_reducible refine Kd.C_drew ?_))); (case side2 => exact (Kd.R_reads' HO143.out).2.1); rintro e w76 ⟨rfl, hb⟩; refine ⟨_, rfl, ?_⟩; have n0_ := Aside0.mk (Kd.R_below (by (with_reducible repeat (first | apply Kd.R_alloc | apply Kd.R_drewN | apply Kd.R_drew)); exact HO143.out) hb); have n1_ := Aside0.mk (blk_below (g := gb133) (o := .cells #[.int .i64 t129, .int .i64 t130, .int .i64 t131] 23 (0, 0)) (by (with_reducible repeat (first | refine blk_drewN ?_ _ | refine blk_drew ?_ | refine blk_alloc ?_ _)); exact BK133.out) hb); have n2_ := Aside0.mk (blk_below (g := gb138) (o := .cells #[.int .i64 t134, .int .i64 t135, .int .i64 t136] 23 (0, 0)) (by (with_reducible repeat (first | refine blk_drewN ?_ _ | refine blk_drew ?_ | refine blk_alloc ?_ _)); exact BK138.out) hb); have n3_ := Aside0.mk (below_step (by repeat (first | (with_reducible first | exact HB.out | apply below_alloc | apply pw_below_drewN | apply below_drew1 | refine below_set ?_ GE133.out | refine below_set ?_ GE138.out) | exact HB.out)) hb); clear HO143; clear BK133; clear BK138; clear HB; have HO143 := n0_; have BK133 := n1_; have BK138 := n2_; have HB := n3_; clear n0_ n1_ n2_ n3_; (try clear hb); (try clear hb2); (try clear hk); (try clear hi)) | ((with_reducible refine gate_callee (f := 19) rfl ?_); refine goesL_ (some 176) rfl rfl Tryd.func19 (by kernel_rfl) rfl #[.int .i64 t144] rfl (by (try simp only [List.map_toArray, List.map_cons, List.map_nil]); first | done | rfl | (simp only [List.length_drop, List.length_take]; rfl)) ?_; (with_reducible refine (cal_Date.calls kj64 t144 t146 t147 t148 t149 _ A70.out (by first | exact TabW.below GT.out (by repeat (first | (with_reducible first | exact HB.out | apply below_alloc | apply pw_below_drewN | apply below_drew1 | refine below_set ?_ GE133.out | refine below_set ?_ GE138.out | refine below_set ?_ GE150.out) | exact HB.out)) | (repeat (first | exact GT.out | refine TabW.drewN ?_ _ | refine TabW.drew ?_)))).mono ?_); rintro e w77 ⟨rfl, hb⟩; refine ⟨_, rfl, ?_⟩; have n0_ := Aside0.mk (Kd.R_below (by (with_reducible repeat (first | apply Kd.R_alloc | apply Kd.R_drewN | apply Kd.R_drew)); exact HO143.out) hb); have n1_ := Aside0.mk (blk_below (g := gb133) (o := .cells #[.int .i64 t129, .int .i64 t130, .int .i64 t131] 23 (0, 0)) (by (with_reducible repeat (first | refine blk_drewN ?_ _ | refine blk_drew ?_ | refine blk_alloc ?_ _)); exact BK133.out) hb); have n2_ := Aside0.mk (blk_below (g := gb138) (o := .cells #[.int .i64 t134, .int .i64 t135, .int .i64 t136] 23 (0, 0)) (by (with_reducible repeat (first | refine blk_drewN ?_ _ | refine blk_drew ?_ | refine blk_alloc ?_ _)); exact BK138.out) hb); have n3_ := Aside0.mk (below_step (by repeat (first | (with_reducible first | exact HB.out | apply below_alloc | apply pw_below_drewN | apply below_drew1 | refine below_set ?_ GE133.out | refine below_set ?_ GE138.out) | exact HB.out)) hb); clear HO143; clear BK133; clear BK138; clear HB; have HO143 := n0_; have BK133 := n1_; have BK138 := n2_; have HB := n3_; clear n0_ n1_ n2_ n3_; (try clear hb); (try clear hb2); (try clear hk); (try clear hi)) | ((with_reducible refine gate_dst (N := 19) rfl ?_); refine box_event ?hg (N := 19) ?hd (cs := #[.int .i64 0, .int .i64 0, .int .i64 0]) (t := 23) ?hr ?_; (case hd => rfl); (case hg => rfl); (case hr => first | (go_simp; done) | (go_simp; rfl)); intro gb150 hg w78 hbox hb; have n0_ := Aside0.mk (Kd.R_below (by (with_reducible repeat (first | apply Kd.R_alloc | apply Kd.R_drewN | apply Kd.R_drew)); exact HO143.out) hb); have n1_ := Aside0.mk (blk_below (g := gb133) (o := .cells #[.int .i64 t129, .int .i64 t130, .int .i64 t131] 23 (0, 0)) (by (with_reducible repeat (first | refine blk_drewN ?_ _ | refine blk_drew ?_ | refine blk_alloc ?_ _)); exact BK133.out) hb); have n2_ := Aside0.mk (blk_below (g := gb138) (o := .cells #[.int .i64 t134, .int .i64 t135, .int .i64 t136] 23 (0, 0)) (by (with_reducible repeat (first | refine blk_drewN ?_ _ | refine blk_drew ?_ | refine blk_alloc ?_ _)); exact BK138.out) hb); have n3_ := Aside0.mk (below_step (by repeat (first | (with_reducible first | exact HB.out | apply below_alloc | apply pw_below_drewN | apply below_drew1 | refine below_set ?_ GE133.out | refine below_set ?_ GE138.out) | exact HB.out)) hb); have n4_ := Aside0.mk (hbox); have n5_ := Aside0.mk ((by rw [hg]; exact (below_size (by repeat (first | (with_reducible first | exact HB.out | apply below_alloc | apply pw_below_drewN | apply below_drew1 | refine below_set ?_ GE133.out | refine below_set ?_ GE138.out) | exact HB.out))) : w.heap.size ≤ gb150)); have n6_ := Aside0.mk ((by rw [hg]; exact (below_size (by repeat (first | (with_reducible first | exact HB.out | apply below_alloc | apply pw_below_drewN | apply below_drew1 | refine below_set ?_ GE133.out | refine below_set ?_ GE138.out) | exact HB.out))) : w.heap.size ≤ gb150)); have n7_ := Aside0.mk ((by rw [hg]; exact Nat.ne_of_lt (blk_lt (g := gb133) (o := .cells #[.int .i64 t129, .int .i64 t130, .int .i64 t131] 23 (0, 0)) (by (with_reducible repeat (first | refine blk_drewN ?_ _ | refine blk_drew ?_ | refine blk_alloc ?_ _)); exact BK133.out)) : gb133 ≠ gb150)); have n8_ := Aside0.mk ((by rw [hg]; exact Nat.ne_of_gt (blk_lt (g := gb133) (o := .cells #[.int .i64 t129, .int .i64 t130, .int .i64 t131] 23 (0, 0)) (by (with_reducible repeat (first | refine blk_drewN ?_ _ | refine blk_drew ?_ | refine blk_alloc ?_ _)); exact BK133.out)) : gb150 ≠ gb133)); have n9_ := Aside0.mk ((by rw [hg]; exact Nat.ne_of_lt (blk_lt (g := gb138) (o := .cells #[.int .i64 t134, .int .i64 t135, .int .i64 t136] 23 (0, 0)) (by (with_reducible repeat (first | refine blk_drewN ?_ _ | refine blk_drew ?_ | refine blk_alloc ?_ _)); exact BK138.out)) : gb138 ≠ gb150)); have n10_ := Aside0.mk ((by rw [hg]; exact Nat.ne_of_gt (blk_lt (g := gb138) (o := .cells #[.int .i64 t134, .int .i64 t135, .int .i64 t136] 23 (0, 0)) (by (with_reducible repeat (first | refine blk_drewN ?_ _ | refine blk_drew ?_ | refine blk_alloc ?_ _)); exact BK138.out)) : gb150 ≠ gb138)); clear HO143; clear BK133; clear BK138; clear HB; have HO143 := n0_; have BK133 := n1_; have BK138 := n2_; have HB := n3_; have BK150 := n4_; have GW150 := n5_; have GE150 := n6_; have NB133_150 := n7_; have NB150_133 := n8_; have NB138_150 := n9_; have NB150_138 := n10_; clear n0_ n1_ n2_ n3_ n4_ n5_ n6_ n7_ n8_ n9_ n10_; clear hb hbox hg; have hnb79 := NB150_133.out; have hnc79 := NB133_150.out; have hnb80 := NB150_138.out; have hnc80 := NB138_150.out; have hcz81_0 : w78.cell? ⟨gb150, 0, none⟩ = some (.int .i64 0) := (blk_cell BK150.out 0).trans rfl; have hcz81_1 : w78.cell? ⟨gb150, 1, none⟩ = some (.int .i64 0) := (blk_cell BK150.out 1).trans rfl; have hcz81_2 : w78.cell? ⟨gb150, 2, none⟩ = some (.int .i64 0) := (blk_cell BK150.out 2).trans rfl; have hfz81_0 := blk_frozen BK150.out 0; have hfz81_1 := blk_frozen BK150.out 1; have hfz81_2 := blk_frozen BK150.out 2) | ((with_reducible refine gate_callee (f := 17) rfl ?_); refine goesL_ (some 180) rfl rfl Tryd.func17 (by kernel_rfl) rfl #[.int .i64 t145] rfl (by (try simp only [List.map_toArray, List.map_cons, List.map_nil]); first | done | rfl | (simp only [List.length_drop, List.length_take]; rfl)) ?_; (with_reducible refine (payofflaw02_num.calls t145 t151 _ A71.out).mono ?_); rintro e w' ⟨rfl, ⟨nd, rfl⟩⟩; refine ⟨_, rfl, ?_⟩; have hnb82 := NB138_133.out; have hnc82 := NB133_138.out; have hcz83_0 : w78.cell? ⟨gb138, 0, none⟩ = some (.int .i64 t134) := (blk_cell BK138.out 0).trans rfl; have hcz83_1 : w78.cell? ⟨gb138, 1, none⟩ = some (.int .i64 t135) := (blk_cell BK138.out 1).trans rfl; have hcz83_2 : w78.cell? ⟨gb138, 2, none⟩ = some (.int .i64 t136) := (blk_cell BK138.out 2).trans rfl; have hfz83_0 := blk_frozen BK138.out 0; have hfz83_1 := blk_frozen BK138.out 1; have hfz83_2 := blk_frozen BK138.out 2))
                                                          go_ret
                                                          exact ⟨by first | rfl | (simp [errW_none, errW_some] <;> rfl) | (simp [*, errW_none, errW_some] <;> rfl), by repeat (first | (with_reducible first | exact HB.out | apply below_alloc | apply pw_below_drewN | apply below_drew1 | refine below_set ?_ GE133.out | refine below_set ?_ GE138.out | refine below_set ?_ GE150.out) | exact HB.out)⟩
                                                      · as_aux_lemma =>
                                                          rw [if_neg c73] at H
                                                          have c73b0 : (t146 == t134) = false := beq_eq_false_iff_ne.mpr c73
                                                          have c73b1 : (t146 != t134) = true := bne_iff_ne.mpr c73
                                                          obtain rfl := Option.some.inj H
                                                          go_wp2_with (first | ((with_reducible refine gate_callee (f := 30) rfl ?_); refine goesL_ (some 170) rfl rfl Tryd.func30 (by kernel_rfl) rfl #[.slice A2 l2.length c2] rfl (by (try simp only [List.map_toArray, List.map_cons, List.map_nil]); first | done | rfl | (simp only [List.length_drop, List.length_take]; rfl)) ?_; (with_reducible refine (payofflaw02_own.calls kj64 _ _ l2 t141 _ ?side1 ?side2 A68.out).mono ?_); (case side1 => repeat (first | exact (Kd.C_below HR2.out HB.out) | (with_reducible refine Kd.C_alloc ?_ _) | (with_reducible refine Kd.C_drewN ?_ _) | (with_reducible refine Kd.C_drew ?_))); (case side2 => exact HC2.out); rintro e w84 ⟨v142, rfl, ho0, hb⟩; refine ⟨_, rfl, ?_⟩; have n0_ := Aside0.mk (Kd.R_lower ho0 (below_size (by repeat (first | (with_reducible first | exact HB.out | apply below_alloc | apply pw_below_drewN | apply below_drew1 | refine below_set ?_ GE133.out | refine below_set ?_ GE138.out) | exact HB.out)))); have n1_ := Aside0.mk (blk_below (g := gb133) (o := .cells #[.int .i64 t129, .int .i64 t130, .int .i64 t131] 23 (0, 0)) (by (with_reducible repeat (first | refine blk_drewN ?_ _ | refine blk_drew ?_ | refine blk_alloc ?_ _)); exact BK133.out) hb); have n2_ := Aside0.mk (blk_below (g := gb138) (o := .cells #[.int .i64 t134, .int .i64 t135, .int .i64 t136] 23 (0, 0)) (by (with_reducible repeat (first | refine blk_drewN ?_ _ | refine blk_drew ?_ | refine blk_alloc ?_ _)); exact BK138.out) hb); have n3_ := Aside0.mk (below_step (by repeat (first | (with_reducible first | exact HB.out | apply below_alloc | apply pw_below_drewN | apply below_drew1 | refine below_set ?_ GE133.out | refine below_set ?_ GE138.out) | exact HB.out)) hb); clear BK133; clear BK138; clear HB; have HO143 := n0_; have BK133 := n1_; have BK138 := n2_; have HB := n3_; clear n0_ n1_ n2_ n3_; (try clear hb); (try clear hb2); (try clear hk); (try clear hi); (try clear ho0); obtain ⟨Ao85, co85, eo85⟩ := Kd.R_slice HO143.out; subst eo85) | ((with_reducible refine gate_callee (f := 32) rfl ?_); refine goesL_ (some 171) rfl rfl Tryd.func32 (by kernel_rfl) rfl #[.int .i64 a0, .int .i64 1, .slice Ao85 t141.length co85] rfl (by (try simp only [List.map_toArray, List.map_cons, List.map_nil]); first | done | rfl | (simp only [List.length_drop, List.length_take]; rfl)) ?_; (with_reducible refine (cal_Adjust.calls kj64 a0 1 _ _ t141 t144 t145 _ ?side1 ?side2 A69.out (by first | exact TabW.below GT.out (by repeat (first | (with_reducible first | exact HB.out | apply below_alloc | apply pw_below_drewN | apply below_drew1 | refine below_set ?_ GE133.out | refine below_set ?_ GE138.out | refine below_set ?_ GE150.out) | exact HB.out)) | (repeat (first | exact GT.out | refine TabW.drewN ?_ _ | refine TabW.drew ?_)))).mono ?_); (case side1 => repeat (first | exact (Kd.R_reads' HO143.out).2.2 | (with_reducible refine Kd.C_alloc ?_ _) | (with_reducible refine Kd.C_drewN ?_ _) | (with_reducible refine Kd.C_drew ?_))); (case side2 => exact (Kd.R_reads' HO143.out).2.1); rintro e w86 ⟨rfl, hb⟩; refine ⟨_, rfl, ?_⟩; have n0_ := Aside0.mk (Kd.R_below (by (with_reducible repeat (first | apply Kd.R_alloc | apply Kd.R_drewN | apply Kd.R_drew)); exact HO143.out) hb); have n1_ := Aside0.mk (blk_below (g := gb133) (o := .cells #[.int .i64 t129, .int .i64 t130, .int .i64 t131] 23 (0, 0)) (by (with_reducible repeat (first | refine blk_drewN ?_ _ | refine blk_drew ?_ | refine blk_alloc ?_ _)); exact BK133.out) hb); have n2_ := Aside0.mk (blk_below (g := gb138) (o := .cells #[.int .i64 t134, .int .i64 t135, .int .i64 t136] 23 (0, 0)) (by (with_reducible repeat (first | refine blk_drewN ?_ _ | refine blk_drew ?_ | refine blk_alloc ?_ _)); exact BK138.out) hb); have n3_ := Aside0.mk (below_step (by repeat (first | (with_reducible first | exact HB.out | apply below_alloc | apply pw_below_drewN | apply below_drew1 | refine below_set ?_ GE133.out | refine below_set ?_ GE138.out) | exact HB.out)) hb); clear HO143; clear BK133; clear BK138; clear HB; have HO143 := n0_; have BK133 := n1_; have BK138 := n2_; have HB := n3_; clear n0_ n1_ n2_ n3_; (try clear hb); (try clear hb2); (try clear hk); (try clear hi)) | ((with_reducible refine gate_callee (f := 19) rfl ?_); refine goesL_ (some 176) rfl rfl Tryd.func19 (by kernel_rfl) rfl #[.int .i64 t144] rfl (by (try simp only [List.map_toArray, List.map_cons, List.map_nil]); first | done | rfl | (simp only [List.length_drop, List.length_take]; rfl)) ?_; (with_reducible refine (cal_Date.calls kj64 t144 t146 t147 t148 t149 _ A70.out (by first | exact TabW.below GT.out (by repeat (first | (with_reducible first | exact HB.out | apply below_alloc | apply pw_below_drewN | apply below_drew1 | refine below_set ?_ GE133.out | refine below_set ?_ GE138.out | refine below_set ?_ GE150.out) | exact HB.out)) | (repeat (first | exact GT.out | refine TabW.drewN ?_ _ | refine TabW.drew ?_)))).mono ?_); rintro e w87 ⟨rfl, hb⟩; refine ⟨_, rfl, ?_⟩; have n0_ := Aside0.mk (Kd.R_below (by (with_reducible repeat (first | apply Kd.R_alloc | apply Kd.R_drewN | apply Kd.R_drew)); exact HO143.out) hb); have n1_ := Aside0.mk (blk_below (g := gb133) (o := .cells #[.int .i64 t129, .int .i64 t130, .int .i64 t131] 23 (0, 0)) (by (with_reducible repeat (first | refine blk_drewN ?_ _ | refine blk_drew ?_ | refine blk_alloc ?_ _)); exact BK133.out) hb); have n2_ := Aside0.mk (blk_below (g := gb138) (o := .cells #[.int .i64 t134, .int .i64 t135, .int .i64 t136] 23 (0, 0)) (by (with_reducible repeat (first | refine blk_drewN ?_ _ | refine blk_drew ?_ | refine blk_alloc ?_ _)); exact BK138.out) hb); have n3_ := Aside0.mk (below_step (by repeat (first | (with_reducible first | exact HB.out | apply below_alloc | apply pw_below_drewN | apply below_drew1 | refine below_set ?_ GE133.out | refine below_set ?_ GE138.out) | exact HB.out)) hb); clear HO143; clear BK133; clear BK138; clear HB; have HO143 := n0_; have BK133 := n1_; have BK138 := n2_; have HB := n3_; clear n0_ n1_ n2_ n3_; (try clear hb); (try clear hb2); (try clear hk); (try clear hi)) | ((with_reducible refine gate_dst (N := 19) rfl ?_); refine box_event ?hg (N := 19) ?hd (cs := #[.int .i64 0, .int .i64 0, .int .i64 0]) (t := 23) ?hr ?_; (case hd => rfl); (case hg => rfl); (case hr => first | (go_simp; done) | (go_simp; rfl)); intro gb150 hg w88 hbox hb; have n0_ := Aside0.mk (Kd.R_below (by (with_reducible repeat (first | apply Kd.R_alloc | apply Kd.R_drewN | apply Kd.R_drew)); exact HO143.out) hb); have n1_ := Aside0.mk (blk_below (g := gb133) (o := .cells #[.int .i64 t129, .int .i64 t130, .int .i64 t131] 23 (0, 0)) (by (with_reducible repeat (first | refine blk_drewN ?_ _ | refine blk_drew ?_ | refine blk_alloc ?_ _)); exact BK133.out) hb); have n2_ := Aside0.mk (blk_below (g := gb138) (o := .cells #[.int .i64 t134, .int .i64 t135, .int .i64 t136] 23 (0, 0)) (by (with_reducible repeat (first | refine blk_drewN ?_ _ | refine blk_drew ?_ | refine blk_alloc ?_ _)); exact BK138.out) hb); have n3_ := Aside0.mk (below_step (by repeat (first | (with_reducible first | exact HB.out | apply below_alloc | apply pw_below_drewN | apply below_drew1 | refine below_set ?_ GE133.out | refine below_set ?_ GE138.out) | exact HB.out)) hb); have n4_ := Aside0.mk (hbox); have n5_ := Aside0.mk ((by rw [hg]; exact (below_size (by repeat (first | (with_reducible first | exact HB.out | apply below_alloc | apply pw_below_drewN | apply below_drew1 | refine below_set ?_ GE133.out | refine below_set ?_ GE138.out) | exact HB.out))) : w.heap.size ≤ gb150)); have n6_ := Aside0.mk ((by rw [hg]; exact (below_size (by repeat (first | (with_reducible first | exact HB.out | apply below_alloc | apply pw_below_drewN | apply below_drew1 | refine below_set ?_ GE133.out | refine below_set ?_ GE138.out) | exact HB.out))) : w.heap.size ≤ gb150)); have n7_ := Aside0.mk ((by rw [hg]; exact Nat.ne_of_lt (blk_lt (g := gb133) (o := .cells #[.int .i64 t129, .int .i64 t130, .int .i64 t131] 23 (0, 0)) (by (with_reducible repeat (first | refine blk_drewN ?_ _ | refine blk_drew ?_ | refine blk_alloc ?_ _)); exact BK133.out)) : gb133 ≠ gb150)); have n8_ := Aside0.mk ((by rw [hg]; exact Nat.ne_of_gt (blk_lt (g := gb133) (o := .cells #[.int .i64 t129, .int .i64 t130, .int .i64 t131] 23 (0, 0)) (by (with_reducible repeat (first | refine blk_drewN ?_ _ | refine blk_drew ?_ | refine blk_alloc ?_ _)); exact BK133.out)) : gb150 ≠ gb133)); have n9_ := Aside0.mk ((by rw [hg]; exact Nat.ne_of_lt (blk_lt (g := gb138) (o := .cells #[.int .i64 t134, .int .i64 t135, .int .i64 t136] 23 (0, 0)) (by (with_reducible repeat (first | refine blk_drewN ?_ _ | refine blk_drew ?_ | refine blk_alloc ?_ _)); exact BK138.out)) : gb138 ≠ gb150)); have n10_ := Aside0.mk ((by rw [hg]; exact Nat.ne_of_gt (blk_lt (g := gb138) (o := .cells #[.int .i64 t134, .int .i64 t135, .int .i64 t136] 23 (0, 0)) (by (with_reducible repeat (first | refine blk_drewN ?_ _ | refine blk_drew ?_ | refine blk_alloc ?_ _)); exact BK138.out)) : gb150 ≠ gb138)); clear HO143; clear BK133; clear BK138; clear HB; have HO143 := n0_; have BK133 := n1_; have BK138 := n2_; have HB := n3_; have BK150 := n4_; have GW150 := n5_; have GE150 := n6_; have NB133_150 := n7_; have NB150_133 := n8_; have NB138_150 := n9_; have NB150_138 := n10_; clear n0_ n1_ n2_ n3_ n4_ n5_ n6_ n7_ n8_ n9_ n10_; clear hb hbox hg; have hnb89 := NB150_133.out; have hnc89 := NB133_150.out; have hnb90 := NB150_138.out; have hnc90 := NB138_150.out; have hcz91_0 : w88.cell? ⟨gb150, 0, none⟩ = some (.int .i64 0) := (blk_cell BK150.out 0).trans rfl; have hcz91_1 : w88.cell? ⟨gb150, 1, none⟩ = some (.int .i64 0) := (blk_cell BK150.out 1).trans rfl; have hcz91_2 : w88.cell? ⟨gb150, 2, none⟩ = some (.int .i64 0) := (blk_cell BK150.out 2).trans rfl; have hfz91_0 := blk_frozen BK150.out 0; have hfz91_1 := blk_frozen BK150.out 1; have hfz91_2 := blk_frozen BK150.out 2) | ((with_reducible refine gate_callee (f := 17) rfl ?_); refine goesL_ (some 180) rfl rfl Tryd.func17 (by kernel_rfl) rfl #[.int .i64 t145] rfl (by (try simp only [List.map_toArray, List.map_cons, List.map_nil]); first | done | rfl | (simp only [List.length_drop, List.length_take]; rfl)) ?_; (with_reducible refine (payofflaw02_num.calls t145 t151 _ A71.out).mono ?_); rintro e w' ⟨rfl, ⟨nd, rfl⟩⟩; refine ⟨_, rfl, ?_⟩; have hnb92 := NB138_133.out; have hnc92 := NB133_138.out; have hcz93_0 : w88.cell? ⟨gb138, 0, none⟩ = some (.int .i64 t134) := (blk_cell BK138.out 0).trans rfl; have hcz93_1 : w88.cell? ⟨gb138, 1, none⟩ = some (.int .i64 t135) := (blk_cell BK138.out 1).trans rfl; have hcz93_2 : w88.cell? ⟨gb138, 2, none⟩ = some (.int .i64 t136) := (blk_cell BK138.out 2).trans rfl; have hfz93_0 := blk_frozen BK138.out 0; have hfz93_1 := blk_frozen BK138.out 1; have hfz93_2 := blk_frozen BK138.out 2))
                                                          go_ret
                                                          exact ⟨by first | rfl | (simp [errW_none, errW_some] <;> rfl) | (simp [*, errW_none, errW_some] <;> rfl), by repeat (first | (with_reducible first | exact HB.out | apply below_alloc | apply pw_below_drewN | apply below_drew1 | refine below_set ?_ GE133.out | refine below_set ?_ GE138.out | refine below_set ?_ GE150.out) | exact HB.out)⟩
                                                  · as_aux_lemma =>
                                                      rw [if_neg c72] at H
                                                      have c72b0 : (t151 == 0) = false := beq_eq_false_iff_ne.mpr c72
                                                      have c72b1 : (t151 != 0) = true := bne_iff_ne.mpr c72
                                                      obtain rfl := Option.some.inj H
                                                      go_wp2_with (first | ((with_reducible refine gate_callee (f := 30) rfl ?_); refine goesL_ (some 170) rfl rfl Tryd.func30 (by kernel_rfl) rfl #[.slice A2 l2.length c2] rfl (by (try simp only [List.map_toArray, List.map_cons, List.map_nil]); first | done | rfl | (simp only [List.length_drop, List.length_take]; rfl)) ?_; (with_reducible refine (payofflaw02_own.calls kj64 _ _ l2 t141 _ ?side1 ?side2 A68.out).mono ?_); (case side1 => repeat (first | exact (Kd.C_below HR2.out HB.out) | (with_reducible refine Kd.C_alloc ?_ _) | (with_reducible refine Kd.C_drewN ?_ _) | (with_reducible refine Kd.C_drew ?_))); (case side2 => exact HC2.out); rintro e w94 ⟨v142, rfl, ho0, hb⟩; refine ⟨_, rfl, ?_⟩; have n0_ := Aside0.mk (Kd.R_lower ho0 (below_size (by repeat (first | (with_reducible first | exact HB.out | apply below_alloc | apply pw_below_drewN | apply below_drew1 | refine below_set ?_ GE133.out | refine below_set ?_ GE138.out) | exact HB.out)))); have n1_ := Aside0.mk (blk_below (g := gb133) (o := .cells #[.int .i64 t129, .int .i64 t130, .int .i64 t131] 23 (0, 0)) (by (with_reducible repeat (first | refine blk_drewN ?_ _ | refine blk_drew ?_ | refine blk_alloc ?_ _)); exact BK133.out) hb); have n2_ := Aside0.mk (blk_below (g := gb138) (o := .cells #[.int .i64 t134, .int .i64 t135, .int .i64 t136] 23 (0, 0)) (by (with_reducible repeat (first | refine blk_drewN ?_ _ | refine blk_drew ?_ | refine blk_alloc ?_ _)); exact BK138.out) hb); have n3_ := Aside0.mk (below_step (by repeat (first | (with_reducible first | exact HB.out | apply below_alloc | apply pw_below_drewN | apply below_drew1 | refine below_set ?_ GE133.out | refine below_set ?_ GE138.out) | exact HB.out)) hb); clear BK133; clear BK138; clear HB; have HO143 := n0_; have BK133 := n1_; have BK138 := n2_; have HB := n3_; clear n0_ n1_ n2_ n3_; (try clear hb); (try clear hb2); (try clear hk); (try clear hi); (try clear ho0); obtain ⟨Ao95, co95, eo95⟩ := Kd.R_slice HO143.out; subst eo95) | ((with_reducible refine gate_callee (f := 32) rfl ?_); refine goesL_ (some 171) rfl rfl Tryd.func32 (by kernel_rfl) rfl #[.int .i64 a0, .int .i64 1, .slice Ao95 t141.length co95] rfl (by (try simp only [List.map_toArray, List.map_cons, List.map_nil]); first | done | rfl | (simp only [List.length_drop, List.length_take]; rfl)) ?_; (with_reducible refine (cal_Adjust.calls kj64 a0 1 _ _ t141 t144 t145 _ ?side1 ?side2 A69.out (by first | exact TabW.below GT.out (by repeat (first | (with_reducible first | exact HB.out | apply below_alloc | apply pw_below_drewN | apply below_drew1 | refine below_set ?_ GE133.out | refine below_set ?_ GE138.out | refine below_set ?_ GE150.out) | exact HB.out)) | (repeat (first | exact GT.out | refine TabW.drewN ?_ _ | refine TabW.drew ?_)))).mono ?_); (case side1 => repeat (first | exact (Kd.R_reads' HO143.out).2.2 | (with_reducible refine Kd.C_alloc ?_ _) | (with_reducible refine Kd.C_drewN ?_ _) | (with_reducible refine Kd.C_drew ?_))); (case side2 => exact (Kd.R_reads' HO143.out).2.1); rintro e w96 ⟨rfl, hb⟩; refine ⟨_, rfl, ?_⟩; have n0_ := Aside0.mk (Kd.R_below (by (with_reducible repeat (first | apply Kd.R_alloc | apply Kd.R_drewN | apply Kd.R_drew)); exact HO143.out) hb); have n1_ := Aside0.mk (blk_below (g := gb133) (o := .cells #[.int .i64 t129, .int .i64 t130, .int .i64 t131] 23 (0, 0)) (by (with_reducible repeat (first | refine blk_drewN ?_ _ | refine blk_drew ?_ | refine blk_alloc ?_ _)); exact BK133.out) hb); have n2_ := Aside0.mk (blk_below (g := gb138) (o := .cells #[.int .i64 t134, .int .i64 t135, .int .i64 t136] 23 (0, 0)) (by (with_reducible repeat (first | refine blk_drewN ?_ _ | refine blk_drew ?_ | refine blk_alloc ?_ _)); exact BK138.out) hb); have n3_ := Aside0.mk (below_step (by repeat (first | (with_reducible first | exact HB.out | apply below_alloc | apply pw_below_drewN | apply below_drew1 | refine below_set ?_ GE133.out | refine below_set ?_ GE138.out) | exact HB.out)) hb); clear HO143; clear BK133; clear BK138; clear HB; have HO143 := n0_; have BK133 := n1_; have BK138 := n2_; have HB := n3_; clear n0_ n1_ n2_ n3_; (try clear hb); (try clear hb2); (try clear hk); (try clear hi)) | ((with_reducible refine gate_callee (f := 19) rfl ?_); refine goesL_ (some 176) rfl rfl Tryd.func19 (by kernel_rfl) rfl #[.int .i64 t144] rfl (by (try simp only [List.map_toArray, List.map_cons, List.map_nil]); first | done | rfl | (simp only [List.length_drop, List.length_take]; rfl)) ?_; (with_reducible refine (cal_Date.calls kj64 t144 t146 t147 t148 t149 _ A70.out (by first | exact TabW.below GT.out (by repeat (first | (with_reducible first | exact HB.out | apply below_alloc | apply pw_below_drewN | apply below_drew1 | refine below_set ?_ GE133.out | refine below_set ?_ GE138.out | refine below_set ?_ GE150.out) | exact HB.out)) | (repeat (first | exact GT.out | refine TabW.drewN ?_ _ | refine TabW.drew ?_)))).mono ?_); rintro e w97 ⟨rfl, hb⟩; refine ⟨_, rfl, ?_⟩; have n0_ := Aside0.mk (Kd.R_below (by (with_reducible repeat (first | apply Kd.R_alloc | apply Kd.R_drewN | apply Kd.R_drew)); exact HO143.out) hb); have n1_ := Aside0.mk (blk_below (g := gb133) (o := .cells #[.int .i64 t129, .int .i64 t130, .int .i64 t131] 23 (0, 0)) (by (with_reducible repeat (first | refine blk_drewN ?_ _ | refine blk_drew ?_ | refine blk_alloc ?_ _)); exact BK133.out) hb); have n2_ := Aside0.mk (blk_below (g := gb138) (o := .cells #[.int .i64 t134, .int .i64 t135, .int .i64 t136] 23 (0, 0)) (by (with_reducible repeat (first | refine blk_drewN ?_ _ | refine blk_drew ?_ | refine blk_alloc ?_ _)); exact BK138.out) hb); have n3_ := Aside0.mk (below_step (by repeat (first | (with_reducible first | exact HB.out | apply below_alloc | apply pw_below_drewN | apply below_drew1 | refine below_set ?_ GE133.out | refine below_set ?_ GE138.out) | exact HB.out)) hb); clear HO143; clear BK133; clear BK138; clear HB; have HO143 := n0_; have BK133 := n1_; have BK138 := n2_; have HB := n3_; clear n0_ n1_ n2_ n3_; (try clear hb); (try clear hb2); (try clear hk); (try clear hi)) | ((with_reducible refine gate_dst (N := 19) rfl ?_); refine box_event ?hg (N := 19) ?hd (cs := #[.int .i64 0, .int .i64 0, .int .i64 0]) (t := 23) ?hr ?_; (case hd => rfl); (case hg => rfl); (case hr => first | (go_simp; done) | (go_simp; rfl)); intro gb150 hg w98 hbox hb; have n0_ := Aside0.mk (Kd.R_below (by (with_reducible repeat (first | apply Kd.R_alloc | apply Kd.R_drewN | apply Kd.R_drew)); exact HO143.out) hb); have n1_ := Aside0.mk (blk_below (g := gb133) (o := .cells #[.int .i64 t129, .int .i64 t130, .int .i64 t131] 23 (0, 0)) (by (with_reducible repeat (first | refine blk_drewN ?_ _ | refine blk_drew ?_ | refine blk_alloc ?_ _)); exact BK133.out) hb); have n2_ := Aside0.mk (blk_below (g := gb138) (o := .cells #[.int .i64 t134, .int .i64 t135, .int .i64 t136] 23 (0, 0)) (by (with_reducible repeat (first | refine blk_drewN ?_ _ | refine blk_drew ?_ | refine blk_alloc ?_ _)); exact BK138.out) hb); have n3_ := Aside0.mk (below_step (by repeat (first | (with_reducible first | exact HB.out | apply below_alloc | apply pw_below_drewN | apply below_drew1 | refine below_set ?_ GE133.out | refine below_set ?_ GE138.out) | exact HB.out)) hb); have n4_ := Aside0.mk (hbox); have n5_ := Aside0.mk ((by rw [hg]; exact (below_size (by repeat (first | (with_reducible first | exact HB.out | apply below_alloc | apply pw_below_drewN | apply below_drew1 | refine below_set ?_ GE133.out | refine below_set ?_ GE138.out) | exact HB.out))) : w.heap.size ≤ gb150)); have n6_ := Aside0.mk ((by rw [hg]; exact (below_size (by repeat (first | (with_reducible first | exact HB.out | apply below_alloc | apply pw_below_drewN | apply below_drew1 | refine below_set ?_ GE133.out | refine below_set ?_ GE138.out) | exact HB.out))) : w.heap.size ≤ gb150)); have n7_ := Aside0.mk ((by rw [hg]; exact Nat.ne_of_lt (blk_lt (g := gb133) (o := .cells #[.int .i64 t129, .int .i64 t130, .int .i64 t131] 23 (0, 0)) (by (with_reducible repeat (first | refine blk_drewN ?_ _ | refine blk_drew ?_ | refine blk_alloc ?_ _)); exact BK133.out)) : gb133 ≠ gb150)); have n8_ := Aside0.mk ((by rw [hg]; exact Nat.ne_of_gt (blk_lt (g := gb133) (o := .cells #[.int .i64 t129, .int .i64 t130, .int .i64 t131] 23 (0, 0)) (by (with_reducible repeat (first | refine blk_drewN ?_ _ | refine blk_drew ?_ | refine blk_alloc ?_ _)); exact BK133.out)) : gb150 ≠ gb133)); have n9_ := Aside0.mk ((by rw [hg]; exact Nat.ne_of_lt (blk_lt (g := gb138) (o := .cells #[.int .i64 t134, .int .i64 t135, .int .i64 t136] 23 (0, 0)) (by (with_reducible repeat (first | refine blk_drewN ?_ _ | refine blk_drew ?_ | refine blk_alloc ?_ _)); exact BK138.out)) : gb138 ≠ gb150)); have n10_ := Aside0.mk ((by rw [hg]; exact Nat.ne_of_gt (blk_lt (g := gb138) (o := .cells #[.int .i64 t134, .int .i64 t135, .int .i64 t136] 23 (0, 0)) (by (with_reducible repeat (first | refine blk_drewN ?_ _ | refine blk_drew ?_ | refine blk_alloc ?_ _)); exact BK138.out)) : gb150 ≠ gb138)); clear HO143; clear BK133; clear BK138; clear HB; have HO143 := n0_; have BK133 := n1_; have BK138 := n2_; have HB := n3_; have BK150 := n4_; have GW150 := n5_; have GE150 := n6_; have NB133_150 := n7_; have NB150_133 := n8_; have NB138_150 := n9_; have NB150_138 := n10_; clear n0_ n1_ n2_ n3_ n4_ n5_ n6_ n7_ n8_ n9_ n10_; clear hb hbox hg; have hnb99 := NB150_133.out; have hnc99 := NB133_150.out; have hnb100 := NB150_138.out; have hnc100 := NB138_150.out; have hcz101_0 : w98.cell? ⟨gb150, 0, none⟩ = some (.int .i64 0) := (blk_cell BK150.out 0).trans rfl; have hcz101_1 : w98.cell? ⟨gb150, 1, none⟩ = some (.int .i64 0) := (blk_cell BK150.out 1).trans rfl; have hcz101_2 : w98.cell? ⟨gb150, 2, none⟩ = some (.int .i64 0) := (blk_cell BK150.out 2).trans rfl; have hfz101_0 := blk_frozen BK150.out 0; have hfz101_1 := blk_frozen BK150.out 1; have hfz101_2 := blk_frozen BK150.out 2) | ((with_reducible refine gate_callee (f := 17) rfl ?_); refine goesL_ (some 180) rfl rfl Tryd.func17 (by kernel_rfl) rfl #[.int .i64 t145] rfl (by (try simp only [List.map_toArray, List.map_cons, List.map_nil]); first | done | rfl | (simp only [List.length_drop, List.length_take]; rfl)) ?_; (with_reducible refine (payofflaw02_num.calls t145 t151 _ A71.out).mono ?_); rintro e w' ⟨rfl, ⟨nd, rfl⟩⟩; refine ⟨_, rfl, ?_⟩))
                                                      go_ret
                                                      exact ⟨by first | rfl | (simp [errW_none, errW_some] <;> rfl) | (simp [*, errW_none, errW_some] <;> rfl), by repeat (first | (with_reducible first | exact HB.out | apply below_alloc | apply pw_below_drewN | apply below_drew1 | refine below_set ?_ GE133.out | refine below_set ?_ GE138.out | refine below_set ?_ GE150.out) | exact HB.out)⟩
                                                · replace c67 := Bool.eq_false_iff.mpr c67
                                                  subst c67
                                                  have H1 : (some true) = some r := by rw [if_neg (show ¬ (false = true) by decide)] at H; exact H
                                                  clear H
                                                  have H := H1
                                                  clear H1
                                                  obtain rfl := Option.some.inj H
                                                  go_wp2
                                                  go_ret
                                                  exact ⟨by first | rfl | (simp [errW_none, errW_some] <;> rfl) | (simp [*, errW_none, errW_some] <;> rfl), by repeat (first | (with_reducible first | exact HB.out | apply below_alloc | apply pw_below_drewN | apply below_drew1 | refine below_set ?_ GE133.out | refine below_set ?_ GE138.out) | exact HB.out)⟩
                                  · as_aux_lemma =>
                                      rw [if_neg c50] at H
                                      exact absurd H (by simp)
                              · as_aux_lemma =>
                                  rw [if_neg c48] at H
                                  exact absurd H (by simp)
                          · as_aux_lemma =>
                              rw [if_neg c44] at H
                              have c44b0 : (x12_4 == t106) = false := beq_eq_false_iff_ne.mpr c44
                              have c44b1 : (x12_4 != t106) = true := bne_iff_ne.mpr c44
                              replace H := Option.bind_eq_some_iff.mp H
                              obtain ⟨t125, A1020, H⟩ := H
                              replace H : ((cal_Business.f k4 x12_4 t125).bind fun t128 => (if t128 = true then (none) else (payofflaw02_CalNearest.l0 k4 a0 a1 l2 t106 x11_41 (wrap64 (x12_4 + x11_41))))) = some r := H
                              have A102 := Aside0.mk A1020
                              clear A1020
                              replace H := Option.bind_eq_some_iff.mp H
                              obtain ⟨t128, A1030, H⟩ := H
                              replace H : (if t128 = true then (none) else (payofflaw02_CalNearest.l0 k4 a0 a1 l2 t106 x11_41 (wrap64 (x12_4 + x11_41)))) = some r := H
                              have A103 := Aside0.mk A1030
                              clear A1030
                              by_cases c104 : t128 = true
                              · subst c104
                                have H1 : (none) = some r := by rw [if_pos rfl] at H; exact H
                                clear H
                                have H := H1
                                clear H1
                                exact absurd H (by simp)
                              · replace c104 := Bool.eq_false_iff.mpr c104
                                subst c104
                                have H1 : (payofflaw02_CalNearest.l0 k4 a0 a1 l2 t106 x11_41 (wrap64 (x12_4 + x11_41))) = some r := by rw [if_neg (show ¬ (false = true) by decide)] at H; exact H
                                clear H
                                have H := H1
                                clear H1
                                have H' := Aside0.mk H
                                clear H
                                go_wp2_with (first | ((with_reducible refine gate_callee (f := 30) rfl ?_); refine goesL_ (some 121) rfl rfl Tryd.func30 (by kernel_rfl) rfl #[.slice A2 l2.length c2] rfl (by (try simp only [List.map_toArray, List.map_cons, List.map_nil]); first | done | rfl | (simp only [List.length_drop, List.length_take]; rfl)) ?_; (with_reducible refine (payofflaw02_own.calls k4 _ _ l2 t125 _ ?side1 ?side2 A102.out).mono ?_); (case side1 => repeat (first | exact (Kd.C_below HR2.out HB.out) | (with_reducible refine Kd.C_alloc ?_ _) | (with_reducible refine Kd.C_drewN ?_ _) | (with_reducible refine Kd.C_drew ?_))); (case side2 => exact HC2.out); rintro e w105 ⟨v126, rfl, ho0, hb⟩; refine ⟨_, rfl, ?_⟩; have n0_ := Aside0.mk (Kd.R_lower ho0 (below_size (by repeat (first | (with_reducible first | exact HB.out | apply below_alloc | apply pw_below_drewN | apply below_drew1) | exact HB.out)))); have n1_ := Aside0.mk (below_step (by repeat (first | (with_reducible first | exact HB.out | apply below_alloc | apply pw_below_drewN | apply below_drew1) | exact HB.out)) hb); clear HB; have HO127 := n0_; have HB := n1_; clear n0_ n1_; (try clear hb); (try clear hb2); (try clear hk); (try clear hi); (try clear ho0); obtain ⟨Ao106, co106, eo106⟩ := Kd.R_slice HO127.out; subst eo106) | ((with_reducible refine gate_callee (f := 31) rfl ?_); refine goesL_ (some 122) rfl rfl Tryd.func31 (by kernel_rfl) rfl #[.int .i64 x12_4, .slice Ao106 t125.length co106] rfl (by (try simp only [List.map_toArray, List.map_cons, List.map_nil]); first | done | rfl | (simp only [List.length_drop, List.length_take]; rfl)) ?_; (with_reducible refine (cal_Business.calls k4 x12_4 _ _ t125 false _ ?side1 ?side2 A103.out).mono ?_); (case side1 => repeat (first | exact (Kd.R_reads' HO127.out).2.2 | (with_reducible refine Kd.C_alloc ?_ _) | (with_reducible refine Kd.C_drewN ?_ _) | (with_reducible refine Kd.C_drew ?_))); (case side2 => exact (Kd.R_reads' HO127.out).2.1); rintro e w' ⟨rfl, ⟨nd, rfl⟩⟩; refine ⟨_, rfl, ?_⟩))
                                go_roundg k4
                                case measure => have := HJ3.out; have := HJ17.out; have := HJ41.out; have := HK4.out; omega
                                case rel => exact ⟨(wrap64 (x12_4 + x11_41)), (by first | rfl | (simp; done) | (simp [*]; done)), H', ⟨by have := HJ3.out; have := HJ17.out; have := HJ41.out; have := HK4.out; omega⟩, ⟨by repeat (first | (with_reducible first | exact HB.out | apply below_alloc | apply pw_below_drewN | apply below_drew1) | exact HB.out)⟩⟩
        · as_aux_lemma =>
            rw [if_neg c15] at H
            have c15b0 : (t108 == 0) = false := beq_eq_false_iff_ne.mpr c15
            have c15b1 : (t108 != 0) = true := bne_iff_ne.mpr c15
            replace H := Option.bind_eq_some_iff.mp H
            obtain ⟨t109, A1070, H⟩ := H
            replace H : (if t109 = 2 then (if t106 = 0 then ((payofflaw02_own.f kj3 l2).bind fun t110 => ((cal_Business.f kj3 a0 t110).bind fun t113 => (if t113 = true then (none) else ((cal_Business.f kj3 7 ([] : List Int)).bind fun t114 => (some t114))))) else (none)) else (none)) = some r := H
            have A107 := Aside0.mk A1070
            clear A1070
            by_cases c108 : t109 = 2
            · as_aux_lemma =>
                rw [if_pos c108] at H
                have c108b0 : (t109 == 2) = true := beq_iff_eq.mpr c108
                have c108b1 : (t109 != 2) = false := bne_eq_false_iff_eq.mpr c108
                clear c108
                by_cases c109 : t106 = 0
                · as_aux_lemma =>
                    rw [if_pos c109] at H
                    have c109b0 : (t106 == 0) = true := beq_iff_eq.mpr c109
                    have c109b1 : (t106 != 0) = false := bne_eq_false_iff_eq.mpr c109
                    clear c109
                    replace H := Option.bind_eq_some_iff.mp H
                    obtain ⟨t110, A1100, H⟩ := H
                    replace H : ((cal_Business.f kj3 a0 t110).bind fun t113 => (if t113 = true then (none) else ((cal_Business.f kj3 7 ([] : List Int)).bind fun t114 => (some t114)))) = some r := H
                    have A110 := Aside0.mk A1100
                    clear A1100
                    replace H := Option.bind_eq_some_iff.mp H
                    obtain ⟨t113, A1110, H⟩ := H
                    replace H : (if t113 = true then (none) else ((cal_Business.f kj3 7 ([] : List Int)).bind fun t114 => (some t114))) = some r := H
                    have A111 := Aside0.mk A1110
                    clear A1110
                    by_cases c112 : t113 = true
                    · subst c112
                      have H1 : (none) = some r := by rw [if_pos rfl] at H; exact H
                      clear H
                      have H := H1
                      clear H1
                      exact absurd H (by simp)
                    · replace c112 := Bool.eq_false_iff.mpr c112
                      subst c112
                      have H1 : ((cal_Business.f kj3 7 ([] : List Int)).bind fun t114 => (some t114)) = some r := by rw [if_neg (show ¬ (false = true) by decide)] at H; exact H
                      clear H
                      have H := H1
                      clear H1
                      replace H := Option.bind_eq_some_iff.mp H
                      obtain ⟨t114, A1130, H⟩ := H
                      replace H : (some t114) = some r := H
                      have A113 := Aside0.mk A1130
                      clear A1130
                      obtain rfl := Option.some.inj H
                      go_wp2_with (first | ((with_reducible refine gate_callee (f := 30) rfl ?_); refine goesL_ (some 44) rfl rfl Tryd.func30 (by kernel_rfl) rfl #[.slice A2 l2.length c2] rfl (by (try simp only [List.map_toArray, List.map_cons, List.map_nil]); first | done | rfl | (simp only [List.length_drop, List.length_take]; rfl)) ?_; (with_reducible refine (payofflaw02_own.calls kj3 _ _ l2 t103 _ ?side1 ?side2 A12.out).mono ?_); (case side1 => repeat (first | exact (Kd.C_below HR2.out HB.out) | (with_reducible refine Kd.C_alloc ?_ _) | (with_reducible refine Kd.C_drewN ?_ _) | (with_reducible refine Kd.C_drew ?_))); (case side2 => exact HC2.out); rintro e w114 ⟨v104, rfl, ho0, hb⟩; refine ⟨_, rfl, ?_⟩; have n0_ := Aside0.mk (Kd.R_lower ho0 (below_size (by repeat (first | (with_reducible first | exact HB.out | apply below_alloc | apply pw_below_drewN | apply below_drew1) | exact HB.out)))); have n1_ := Aside0.mk (below_step (by repeat (first | (with_reducible first | exact HB.out | apply below_alloc | apply pw_below_drewN | apply below_drew1) | exact HB.out)) hb); clear HB; have HO105 := n0_; have HB := n1_; clear n0_ n1_; (try clear hb); (try clear hb2); (try clear hk); (try clear hi); (try clear ho0); obtain ⟨Ao115, co115, eo115⟩ := Kd.R_slice HO105.out; subst eo115) | ((with_reducible refine gate_callee (f := 32) rfl ?_); refine goesL_ (some 45) rfl rfl Tryd.func32 (by kernel_rfl) rfl #[.int .i64 a0, .int .i64 a1, .slice Ao115 t103.length co115] rfl (by (try simp only [List.map_toArray, List.map_cons, List.map_nil]); first | done | rfl | (simp only [List.length_drop, List.length_take]; rfl)) ?_; (with_reducible refine (cal_Adjust.calls kj3 a0 a1 _ _ t103 t106 t107 _ ?side1 ?side2 A13.out (by first | exact TabW.below GT.out (by repeat (first | (with_reducible first | exact HB.out | apply below_alloc | apply pw_below_drewN | apply below_drew1 | refine below_set ?_ GE133.out | refine below_set ?_ GE138.out | refine below_set ?_ GE150.out) | exact HB.out)) | (repeat (first | exact GT.out | refine TabW.drewN ?_ _ | refine TabW.drew ?_)))).mono ?_); (case side1 => repeat (first | exact (Kd.R_reads' HO105.out).2.2 | (with_reducible refine Kd.C_alloc ?_ _) | (with_reducible refine Kd.C_drewN ?_ _) | (with_reducible refine Kd.C_drew ?_))); (case side2 => exact (Kd.R_reads' HO105.out).2.1); rintro e w116 ⟨rfl, hb⟩; refine ⟨_, rfl, ?_⟩; have n0_ := Aside0.mk (Kd.R_below (by (with_reducible repeat (first | apply Kd.R_alloc | apply Kd.R_drewN | apply Kd.R_drew)); exact HO105.out) hb); have n1_ := Aside0.mk (below_step (by repeat (first | (with_reducible first | exact HB.out | apply below_alloc | apply pw_below_drewN | apply below_drew1) | exact HB.out)) hb); clear HO105; clear HB; have HO105 := n0_; have HB := n1_; clear n0_ n1_; (try clear hb); (try clear hb2); (try clear hk); (try clear hi)) | ((with_reducible refine gate_callee (f := 17) rfl ?_); refine goesL_ (some 49) rfl rfl Tryd.func17 (by kernel_rfl) rfl #[.int .i64 t107] rfl (by (try simp only [List.map_toArray, List.map_cons, List.map_nil]); first | done | rfl | (simp only [List.length_drop, List.length_take]; rfl)) ?_; (with_reducible refine (payofflaw02_num.calls t107 t108 _ A14.out).mono ?_); rintro e w' ⟨rfl, ⟨nd, rfl⟩⟩; refine ⟨_, rfl, ?_⟩) | ((with_reducible refine gate_callee (f := 17) rfl ?_); refine goesL_ (some 52) rfl rfl Tryd.func17 (by kernel_rfl) rfl #[.int .i64 t107] rfl (by (try simp only [List.map_toArray, List.map_cons, List.map_nil]); first | done | rfl | (simp only [List.length_drop, List.length_take]; rfl)) ?_; (with_reducible refine (payofflaw02_num.calls t107 t109 _ A107.out).mono ?_); rintro e w' ⟨rfl, ⟨nd, rfl⟩⟩; refine ⟨_, rfl, ?_⟩) | (go_at_call 30; (with_reducible refine (payofflaw02_own.calls kj3 _ _ l2 t110 _ ?side1 ?side2 A110.out).mono ?_); (case side1 => repeat (first | exact (Kd.C_below HR2.out (by repeat (first | (with_reducible first | exact HB.out | apply below_alloc | apply pw_below_drewN | apply below_drew1) | exact HB.out))) | (with_reducible refine Kd.C_alloc ?_ _) | (with_reducible refine Kd.C_drewN ?_ _) | (with_reducible refine Kd.C_drew ?_))); (case side2 => exact HC2.out); rintro e w117 ⟨v111, rfl, ho0, hb⟩; have n0_ := Aside0.mk (Kd.R_elder' (by (with_reducible repeat (first | apply Kd.R_alloc | apply Kd.R_drewN | apply Kd.R_drew)); exact HO105.out) (Kd.R_base ho0) hb); have n1_ := Aside0.mk (Kd.R_lower (Kd.R_new' ho0 (Kd.R_lt (by (with_reducible repeat (first | apply Kd.R_alloc | apply Kd.R_drewN | apply Kd.R_drew)); exact HO105.out))) (below_size (by repeat (first | (with_reducible first | exact HB.out | apply below_alloc | apply pw_below_drewN | apply below_drew1) | exact HB.out)))); have n2_ := Aside0.mk (below_step (by repeat (first | (with_reducible first | exact HB.out | apply below_alloc | apply pw_below_drewN | apply below_drew1) | exact HB.out)) hb); clear HO105; clear HB; have HO105 := n0_; have HO112 := n1_; have HB := n2_; clear n0_ n1_ n2_; (try clear hb); (try clear hb2); (try clear hk); (try clear hi); (try clear ho0); obtain ⟨Ao118, co118, eo118⟩ := Kd.R_slice HO112.out; subst eo118) | (go_at_call 31; (with_reducible refine (cal_Business.calls kj3 a0 _ _ t110 false _ ?side1 ?side2 A111.out).mono ?_); (case side1 => repeat (first | exact (Kd.R_reads' HO112.out).2.2 | (with_reducible refine Kd.C_alloc ?_ _) | (with_reducible refine Kd.C_drewN ?_ _) | (with_reducible refine Kd.C_drew ?_))); (case side2 => exact (Kd.R_reads' HO112.out).2.1); rintro e w' ⟨rfl, ⟨nd, rfl⟩⟩) | (go_at_call 31; (refine (cal_Business.calls kj3 7 _ _ ([] : List Int) t114 _ ?side1 ?side2 A113.out).mono ?_); (case side1 => exact Kd.C_nil _ _); (case side2 => exact Nat.le_refl _); rintro e w' ⟨rfl, ⟨nd, rfl⟩⟩))
                      go_ret
                      exact ⟨by first | rfl | (simp [errW_none, errW_some] <;> rfl) | (simp [*, errW_none, errW_some] <;> rfl), by repeat (first | (with_reducible first | exact HB.out | apply below_alloc | apply pw_below_drewN | apply below_drew1) | exact HB.out)⟩
                · as_aux_lemma =>
                    rw [if_neg c109] at H
                    exact absurd H (by simp)
            · as_aux_lemma =>
                rw [if_neg c108] at H
                exact absurd H (by simp)

end Go.Proofs.YtdebllinaffceaaDoor.M
