import Derived.Test.YtdebllinaffceaaDoorVWords
import Derived.Test.YtdebllinaffceaaDoorMx0
import Derived.Test.YtdebllinaffceaaDoorMPayoffref02From
import Derived.Test.YtdebllinaffceaaDoorMPayoffref02Month
namespace Go.Proofs.YtdebllinaffceaaDoor.M
open Go.RowKit Go.Proofs.YtdebllinaffceaaDoorW.PrintWords Go.Proofs.YtdebllinaffceaaDoorW.PrintLast Go.Proofs.YtdebllinaffceaaDoorW.PrintMore
attribute [local go_sem] max2_int min2_int max_two min_two max_three min_three max_four min_four   -- for this text's walks alone
set_option linter.unusedVariables false
set_option linter.unusedSimpArgs false

/-! ### payoffref02_Adjust: function 33 -/
mutual
def payoffref02_Adjust.j0 : Nat → Int → Int → List Int → Bool → Option (Int × Int)
 | 0, _, _, _, _ => none
 | k + 1, x0, x1, x2, x14 => if x14 = true then (some (0, 1)) else (if x0 < 0 then (payoffref02_Adjust.j1 k x0 x1 x2 true) else (payoffref02_Adjust.j1 k x0 x1 x2 (decide (x0 ≥ 109573))))
def payoffref02_Adjust.j1 : Nat → Int → Int → List Int → Bool → Option (Int × Int)
 | 0, _, _, _, _ => none
 | k + 1, x0, x1, x2, x20 => if x20 = true then (some (0, 2)) else (if x1 = 0 then (some (x0, 0)) else (if x1 = 3 then (payoffref02_Adjust.j2 k x0 x1 x2 (-1)) else ((payoffref02_from.f k x0 1 x2).bind fun t101 => (payoffref02_Adjust.j2 k x0 x1 x2 t101))))
def payoffref02_Adjust.j2 : Nat → Int → Int → List Int → Int → Option (Int × Int)
 | 0, _, _, _, _ => none
 | k + 1, x0, x1, x2, x8 => if x1 = 2 then (if x8 ≥ 0 then ((payoffref02_month.f k x8).bind fun t102 => ((payoffref02_month.f k x0).bind fun t103 => (payoffref02_Adjust.j3 k x0 x1 x2 x8 (t102 != t103)))) else (payoffref02_Adjust.j3 k x0 x1 x2 x8 false)) else (payoffref02_Adjust.j3 k x0 x1 x2 x8 false)
def payoffref02_Adjust.j3 : Nat → Int → Int → List Int → Int → Bool → Option (Int × Int)
 | 0, _, _, _, _, _ => none
 | k + 1, x0, x1, x2, x8, x41 => if x41 = true then (payoffref02_Adjust.j4 k x0 x1 x2 (-1)) else (payoffref02_Adjust.j4 k x0 x1 x2 x8)
def payoffref02_Adjust.j4 : Nat → Int → Int → List Int → Int → Option (Int × Int)
 | 0, _, _, _, _ => none
 | k + 1, x0, x1, x2, x8 => if x1 = 3 then (payoffref02_Adjust.j5 k x0 x2 x8 true) else (if x1 = 2 then (payoffref02_Adjust.j5 k x0 x2 x8 (decide (x8 < 0))) else (payoffref02_Adjust.j5 k x0 x2 x8 false))
def payoffref02_Adjust.j5 : Nat → Int → List Int → Int → Bool → Option (Int × Int)
 | 0, _, _, _, _ => none
 | k + 1, x0, x2, x8, x51 => if x51 = true then ((payoffref02_from.f k x0 (-1) x2).bind fun t104 => (if t104 < 0 then (some (0, 2)) else (some (t104, 0)))) else (if x8 < 0 then (some (0, 2)) else (some (x8, 0)))
end
def payoffref02_Adjust.f (k : Nat) (a0 : Int) (a1 : Int) (l2 : List Int) : Option (Int × Int) := if a1 < 0 then (payoffref02_Adjust.j0 k a0 a1 l2 true) else (payoffref02_Adjust.j0 k a0 a1 l2 (decide (a1 > 3)))
set_option maxHeartbeats 8000000 in
set_option maxRecDepth 100000 in
theorem payoffref02_Adjust.calls (k : Nat) (a0 : Int) (a1 : Int) (A2 : Option Addr) (c2 : Nat) (l2 : List Int) (r1 : Int) (r2 : Int) (w : World) (hr2 : Kd.C (Kd.int .i64) w A2 l2.length l2) (hc2 : l2.length ≤ c2) (h : payoffref02_Adjust.f k a0 a1 l2 = some (r1, r2)) :
  Calls Tryd.prog 33 #[.int .i64 a0, .int .i64 a1, .slice A2 l2.length c2] w fun e w' => e = .returned (.tuple #[.int .i64 r1, .int .i64 r2]) ∧ Below w.heap.size w w' := by
 have HR2 := Aside0.mk hr2
 have HC2 := Aside0.mk hc2
 clear hr2 hc2
 have HB := Aside0.mk (Below.refl w.heap.size w)
 have H : (if a1 < 0 then (payoffref02_Adjust.j0 k a0 a1 l2 true) else (payoffref02_Adjust.j0 k a0 a1 l2 (decide (a1 > 3)))) = some (r1, r2) := h
 clear h
 have HC4 := Aside0.mk H
 clear H
 go_enter Tryd.func33, Tryd.ntmps33
 go_upto_region 1 with (fail)
 go_cut [14] (fun v14 wc => ∃ (kq : Nat) (x14_3 : Bool), v14 = .bool x14_3 ∧ Aside0 (payoffref02_Adjust.j0 kq a0 a1 l2 x14_3 = some (r1, r2)) ∧ Aside0 (kq ≤ k) ∧ Aside0 (Below w.heap.size w wc))
 case first =>
  have H := HC4.out
  clear HC4
  by_cases c5 : a1 < 0
  ·rw [if_pos c5] at H
   have c5b0 : decide (a1 < 0) = true := decide_eq_true c5
   clear c5
   (first | rw [c5b0] | (simp only [i64_w, i32_w]; rw [c5b0]) | skip)
   have H' := Aside0.mk H
   clear H
   go_wp2
   go_meet
   case rel => exact ⟨_, (true), (by first | rfl | (simp; done) | (simp [*]; done)), H', ⟨by first | omega | exact Nat.le_refl _⟩, ⟨BQ⟩⟩
  ·rw [if_neg c5] at H
   have c5b0 : decide (a1 < 0) = false := decide_eq_false c5
   clear c5
   (first | rw [c5b0] | (simp only [i64_w, i32_w]; rw [c5b0]) | skip)
   have H' := Aside0.mk H
   clear H
   go_wp2
   go_meet
   case rel => exact ⟨_, (decide (a1 > 3)), (by first | rfl | (simp; done) | (simp [*]; done)), H', ⟨by first | omega | exact Nat.le_refl _⟩, ⟨BQ⟩⟩
 case rest =>
  clear HC4
  try clear c2
  try clear p2
  try clear c3
  try clear c5
  try clear c5b0
  obtain ⟨kq, x14_3, rfl, HA, HJ3, HB⟩ := hcut
  cases kq with
  | zero => exact absurd HA.out (by simp [payoffref02_Adjust.j0])
  | succ kj3 =>
   have H := HA.out
   clear HA
   simp only [payoffref02_Adjust.j0] at H
   by_cases c6 : x14_3 = true
   ·subst c6
    have H1 : (some (0, 1)) = some (r1, r2) := by rw [if_pos rfl] at H; exact H
    clear H
    have H := H1
    clear H1
    simp only [Option.some.injEq, Prod.mk.injEq] at H
    obtain ⟨rfl, rfl⟩ := H
    go_wp2
    go_ret2
    exact ⟨RQ, BQ⟩
   ·replace c6 := Bool.eq_false_iff.mpr c6
    subst c6
    have H1 : (if a0 < 0 then (payoffref02_Adjust.j1 kj3 a0 a1 l2 true) else (payoffref02_Adjust.j1 kj3 a0 a1 l2 (decide (a0 ≥ 109573)))) = some (r1, r2) := by rw [if_neg (show ¬ (false = true) by decide)] at H; exact H
    clear H
    have H := H1
    clear H1
    have HC7 := Aside0.mk H
    clear H
    go_upto_region 3 with (fail)
    go_cut [20] (fun v20 wc => ∃ (kq : Nat) (x20_6 : Bool), v20 = .bool x20_6 ∧ Aside0 (payoffref02_Adjust.j1 kq a0 a1 l2 x20_6 = some (r1, r2)) ∧ Aside0 (kq ≤ kj3) ∧ Aside0 (Below w.heap.size w wc))
    case first =>
     have H := HC7.out
     clear HC7
     by_cases c8 : a0 < 0
     ·rw [if_pos c8] at H
      have c8b0 : decide (a0 < 0) = true := decide_eq_true c8
      clear c8
      (first | rw [c8b0] | (simp only [i64_w, i32_w]; rw [c8b0]) | skip)
      have H' := Aside0.mk H
      clear H
      go_wp2
      go_meet
      case rel => exact ⟨_, (true), (by first | rfl | (simp; done) | (simp [*]; done)), H', ⟨by have := HJ3.out; first | omega | exact Nat.le_refl _⟩, ⟨BQ⟩⟩
     ·rw [if_neg c8] at H
      have c8b0 : decide (a0 < 0) = false := decide_eq_false c8
      clear c8
      (first | rw [c8b0] | (simp only [i64_w, i32_w]; rw [c8b0]) | skip)
      have H' := Aside0.mk H
      clear H
      go_wp2
      go_meet
      case rel => exact ⟨_, (decide (a0 ≥ 109573)), (by first | rfl | (simp; done) | (simp [*]; done)), H', ⟨by have := HJ3.out; first | omega | exact Nat.le_refl _⟩, ⟨BQ⟩⟩
    case rest =>
     clear HC7
     try clear c2
     try clear p2 p2
     try clear c3
     try clear c5
     try clear c5b0
     try clear c6
     try clear c8
     try clear c8b0
     obtain ⟨kq, x20_6, rfl, HA, HJ6, HB⟩ := hcut
     cases kq with
     | zero => exact absurd HA.out (by simp [payoffref02_Adjust.j1])
     | succ kj6 =>
      have H := HA.out
      clear HA
      simp only [payoffref02_Adjust.j1] at H
      by_cases c9 : x20_6 = true
      ·subst c9
       have H1 : (some (0, 2)) = some (r1, r2) := by rw [if_pos rfl] at H; exact H
       clear H
       have H := H1
       clear H1
       simp only [Option.some.injEq, Prod.mk.injEq] at H
       obtain ⟨rfl, rfl⟩ := H
       go_wp2
       go_ret2
       exact ⟨RQ, BQ⟩
      ·replace c9 := Bool.eq_false_iff.mpr c9
       subst c9
       have H1 : (if a1 = 0 then (some (a0, 0)) else (if a1 = 3 then (payoffref02_Adjust.j2 kj6 a0 a1 l2 (-1)) else ((payoffref02_from.f kj6 a0 1 l2).bind fun t101 => (payoffref02_Adjust.j2 kj6 a0 a1 l2 t101)))) = some (r1, r2) := by rw [if_neg (show ¬ (false = true) by decide)] at H; exact H
       clear H
       have H := H1
       clear H1
       by_cases c10 : a1 = 0
       ·rw [if_pos c10] at H
        have c10b0 : (a1 == 0) = true := beq_iff_eq.mpr c10
        have c10b1 : (a1 != 0) = false := bne_eq_false_iff_eq.mpr c10
        clear c10
        simp only [Option.some.injEq, Prod.mk.injEq] at H
        obtain ⟨rfl, rfl⟩ := H
        go_wp2
        go_ret2
        exact ⟨RQ, BQ⟩
       ·rw [if_neg c10] at H
        have c10b0 : (a1 == 0) = false := beq_eq_false_iff_ne.mpr c10
        have c10b1 : (a1 != 0) = true := bne_iff_ne.mpr c10
        have HC11 := Aside0.mk H
        clear H
        go_upto_if 25 with (fail)
        go_cut [8] (fun v8 wc => ∃ (kq : Nat) (x8_10 : Int), v8 = .int .i64 x8_10 ∧ Aside0 (payoffref02_Adjust.j2 kq a0 a1 l2 x8_10 = some (r1, r2)) ∧ Aside0 (kq ≤ kj6) ∧ Aside0 (Below w.heap.size w wc))
        case first =>
         have H := HC11.out
         clear HC11
         by_cases c12 : a1 = 3
         ·rw [if_pos c12] at H
          have c12b0 : (a1 == 3) = true := beq_iff_eq.mpr c12
          have c12b1 : (a1 != 3) = false := bne_eq_false_iff_eq.mpr c12
          clear c12
          (first | rw [c12b0] | (simp only [i64_w, i32_w]; rw [c12b0]) | skip)
          have H' := Aside0.mk H
          clear H
          go_wp2
          go_meet
          case rel => exact ⟨_, ((-1)), (by first | rfl | (simp; done) | (simp [*]; done)), H', ⟨by have := HJ3.out; have := HJ6.out; first | omega | exact Nat.le_refl _⟩, ⟨BQ⟩⟩
         ·rw [if_neg c12] at H
          have c12b0 : (a1 == 3) = false := beq_eq_false_iff_ne.mpr c12
          have c12b1 : (a1 != 3) = true := bne_iff_ne.mpr c12
          (first | rw [c12b0] | (simp only [i64_w, i32_w]; rw [c12b0]) | skip)
          replace H := Option.bind_eq_some_iff.mp H
          obtain ⟨t101, A130, H⟩ := H
          replace H : (payoffref02_Adjust.j2 kj6 a0 a1 l2 t101) = some (r1, r2) := H
          have A13 := Aside0.mk A130
          clear A130
          have H' := Aside0.mk H
          clear H
          go_wp2_with (first | ((with_reducible refine gate_callee (f := 59) rfl ?_); refine goesL_ (some 28) rfl rfl Tryd.func59 (by kernel_rfl) rfl #[.int .i64 a0, .int .i64 1, .slice A2 l2.length c2] rfl SQ ?_; (with_reducible refine (payoffref02_from.calls kj6 a0 1 _ _ l2 t101 _ ?side1 ?side2 A13.out).mono ?_); (case side1 => repeat (first | exact (Kd.C_below HR2.out HB.out) | (with_reducible refine Kd.C_alloc ?_ _) | (with_reducible refine Kd.C_drewN ?_ _) | (with_reducible refine Kd.C_drew ?_))); (case side2 => exact HC2.out); rintro e w' ⟨rfl, ⟨nd, rfl⟩⟩; refine ⟨_, rfl, ?_⟩))
          go_meet
          case rel => exact ⟨_, (t101), (by first | rfl | (simp; done) | (simp [*]; done)), H', ⟨by have := HJ3.out; have := HJ6.out; first | omega | exact Nat.le_refl _⟩, ⟨BQ⟩⟩
        case rest =>
         clear HC11
         try clear c1
         try clear c2
         try clear p2 p2
         try clear c3
         try clear c5
         try clear c5b0
         try clear c6
         try clear c8
         try clear c8b0
         try clear c9
         try clear c10
         try clear c10b0
         try clear c10b1
         try clear c12
         try clear c12b0
         try clear c12b1
         obtain ⟨kq, x8_10, rfl, HA, HJ10, HB⟩ := hcut
         cases kq with
         | zero => exact absurd HA.out (by simp [payoffref02_Adjust.j2])
         | succ kj10 =>
          have H := HA.out
          clear HA
          simp only [payoffref02_Adjust.j2] at H
          have HC14 := Aside0.mk H
          clear H
          go_upto_region 10 with (fail)
          go_cut [41] (fun v41 wc => ∃ (kq : Nat) (x41_13 : Bool), v41 = .bool x41_13 ∧ Aside0 (payoffref02_Adjust.j3 kq a0 a1 l2 x8_10 x41_13 = some (r1, r2)) ∧ Aside0 (kq ≤ kj10) ∧ Aside0 (Below w.heap.size w wc))
          case first =>
           have H := HC14.out
           clear HC14
           by_cases c15 : a1 = 2
           ·rw [if_pos c15] at H
            have c15b0 : (a1 == 2) = true := beq_iff_eq.mpr c15
            have c15b1 : (a1 != 2) = false := bne_eq_false_iff_eq.mpr c15
            clear c15
            (first | rw [c15b0] | (simp only [i64_w, i32_w]; rw [c15b0]) | skip)
            by_cases c16 : x8_10 ≥ 0
            ·rw [if_pos c16] at H
             have c16b0 : decide (0 ≤ x8_10) = true := decide_eq_true c16
             clear c16
             replace H := Option.bind_eq_some_iff.mp H
             obtain ⟨t102, A170, H⟩ := H
             replace H : ((payoffref02_month.f kj10 a0).bind fun t103 => (payoffref02_Adjust.j3 kj10 a0 a1 l2 x8_10 (t102 != t103))) = some (r1, r2) := H
             have A17 := Aside0.mk A170
             clear A170
             replace H := Option.bind_eq_some_iff.mp H
             obtain ⟨t103, A180, H⟩ := H
             replace H : (payoffref02_Adjust.j3 kj10 a0 a1 l2 x8_10 (t102 != t103)) = some (r1, r2) := H
             have A18 := Aside0.mk A180
             clear A180
             have H' := Aside0.mk H
             clear H
             go_wp2_with (first | (go_at_call 60; (with_reducible refine (payoffref02_month.calls kj10 x8_10 t102 _ A17.out).mono ?_); rintro e w19 ⟨rfl, hb⟩; have n0_ := Aside0.mk (below_step (BQ) hb); clear HB; have HB := n0_; clear n0_; (try clear hb); (try clear hb2); (try clear hk); (try clear hi)) | (go_at_call 60; (with_reducible refine (payoffref02_month.calls kj10 a0 t103 _ A18.out).mono ?_); rintro e w20 ⟨rfl, hb⟩; have n0_ := Aside0.mk (below_step (BQ) hb); clear HB; have HB := n0_; clear n0_; (try clear hb); (try clear hb2); (try clear hk); (try clear hi)))
             go_meet
             case rel => exact ⟨_, ((t102 != t103)), (by first | rfl | (simp; done) | (simp [*]; done)), H', ⟨by have := HJ3.out; have := HJ6.out; have := HJ10.out; first | omega | exact Nat.le_refl _⟩, ⟨BQ⟩⟩
            ·rw [if_neg c16] at H
             have c16b0 : decide (0 ≤ x8_10) = false := decide_eq_false c16
             clear c16
             have H' := Aside0.mk H
             clear H
             go_wp2
             go_meet
             case rel => exact ⟨_, (false), (by first | rfl | (simp; done) | (simp [*]; done)), H', ⟨by have := HJ3.out; have := HJ6.out; have := HJ10.out; first | omega | exact Nat.le_refl _⟩, ⟨BQ⟩⟩
           ·rw [if_neg c15] at H
            have c15b0 : (a1 == 2) = false := beq_eq_false_iff_ne.mpr c15
            have c15b1 : (a1 != 2) = true := bne_iff_ne.mpr c15
            (first | rw [c15b0] | (simp only [i64_w, i32_w]; rw [c15b0]) | skip)
            have H' := Aside0.mk H
            clear H
            go_wp2
            go_meet
            case rel => exact ⟨_, (false), (by first | rfl | (simp; done) | (simp [*]; done)), H', ⟨by have := HJ3.out; have := HJ6.out; have := HJ10.out; first | omega | exact Nat.le_refl _⟩, ⟨BQ⟩⟩
          case rest =>
           clear HC14
           try clear c1
           try clear c2
           try clear p2 p2
           try clear c3
           try clear c5
           try clear c5b0
           try clear c6
           try clear c8
           try clear c8b0
           try clear c9
           try clear c10
           try clear c10b0
           try clear c10b1
           try clear c12
           try clear c12b0
           try clear c12b1
           try clear c15
           try clear c15b0
           try clear c15b1
           try clear c16
           try clear c16b0
           obtain ⟨kq, x41_13, rfl, HA, HJ13, HB⟩ := hcut
           cases kq with
           | zero => exact absurd HA.out (by simp [payoffref02_Adjust.j3])
           | succ kj13 =>
            have H := HA.out
            clear HA
            simp only [payoffref02_Adjust.j3] at H
            have HC21 := Aside0.mk H
            clear H
            go_upto_if 41 with (fail)
            go_cut [8] (fun v8 wc => ∃ (kq : Nat) (x8_20 : Int), v8 = .int .i64 x8_20 ∧ Aside0 (payoffref02_Adjust.j4 kq a0 a1 l2 x8_20 = some (r1, r2)) ∧ Aside0 (kq ≤ kj13) ∧ Aside0 (Below w.heap.size w wc))
            case first =>
             have H := HC21.out
             clear HC21
             by_cases c22 : x41_13 = true
             ·subst c22
              have H1 : (payoffref02_Adjust.j4 kj13 a0 a1 l2 (-1)) = some (r1, r2) := by rw [if_pos rfl] at H; exact H
              clear H
              have H := H1
              clear H1
              have H' := Aside0.mk H
              clear H
              go_wp2
              go_meet
              case rel => exact ⟨_, ((-1)), (by first | rfl | (simp; done) | (simp [*]; done)), H', ⟨by have := HJ3.out; have := HJ6.out; have := HJ10.out; have := HJ13.out; first | omega | exact Nat.le_refl _⟩, ⟨BQ⟩⟩
             ·replace c22 := Bool.eq_false_iff.mpr c22
              subst c22
              have H1 : (payoffref02_Adjust.j4 kj13 a0 a1 l2 x8_10) = some (r1, r2) := by rw [if_neg (show ¬ (false = true) by decide)] at H; exact H
              clear H
              have H := H1
              clear H1
              have H' := Aside0.mk H
              clear H
              go_wp2
              go_meet
              case rel => exact ⟨_, (x8_10), (by first | rfl | (simp; done) | (simp [*]; done)), H', ⟨by have := HJ3.out; have := HJ6.out; have := HJ10.out; have := HJ13.out; first | omega | exact Nat.le_refl _⟩, ⟨BQ⟩⟩
            case rest =>
             clear HC21
             try clear c1
             try clear c2
             try clear p2 p2
             try clear c3
             try clear c5
             try clear c5b0
             try clear c6
             try clear c8
             try clear c8b0
             try clear c9
             try clear c10
             try clear c10b0
             try clear c10b1
             try clear c12
             try clear c12b0
             try clear c12b1
             try clear c15
             try clear c15b0
             try clear c15b1
             try clear c16
             try clear c16b0
             try clear c22
             obtain ⟨kq, x8_20, rfl, HA, HJ20, HB⟩ := hcut
             cases kq with
             | zero => exact absurd HA.out (by simp [payoffref02_Adjust.j4])
             | succ kj20 =>
              have H := HA.out
              clear HA
              simp only [payoffref02_Adjust.j4] at H
              have HC23 := Aside0.mk H
              clear H
              go_upto_region 12 with (fail)
              go_cut [51] (fun v51 wc => ∃ (kq : Nat) (x51_22 : Bool), v51 = .bool x51_22 ∧ Aside0 (payoffref02_Adjust.j5 kq a0 l2 x8_20 x51_22 = some (r1, r2)) ∧ Aside0 (kq ≤ kj20) ∧ Aside0 (Below w.heap.size w wc))
              case first =>
               have H := HC23.out
               clear HC23
               by_cases c24 : a1 = 3
               ·rw [if_pos c24] at H
                have c24b0 : (a1 == 3) = true := beq_iff_eq.mpr c24
                have c24b1 : (a1 != 3) = false := bne_eq_false_iff_eq.mpr c24
                clear c24
                (first | rw [c24b0] | (simp only [i64_w, i32_w]; rw [c24b0]) | skip)
                have H' := Aside0.mk H
                clear H
                go_wp2
                go_meet
                case rel => exact ⟨_, (true), (by first | rfl | (simp; done) | (simp [*]; done)), H', ⟨by have := HJ3.out; have := HJ6.out; have := HJ10.out; have := HJ13.out; have := HJ20.out; first | omega | exact Nat.le_refl _⟩, ⟨BQ⟩⟩
               ·rw [if_neg c24] at H
                have c24b0 : (a1 == 3) = false := beq_eq_false_iff_ne.mpr c24
                have c24b1 : (a1 != 3) = true := bne_iff_ne.mpr c24
                (first | rw [c24b0] | (simp only [i64_w, i32_w]; rw [c24b0]) | skip)
                by_cases c25 : a1 = 2
                ·rw [if_pos c25] at H
                 have c25b0 : (a1 == 2) = true := beq_iff_eq.mpr c25
                 have c25b1 : (a1 != 2) = false := bne_eq_false_iff_eq.mpr c25
                 clear c25
                 have H' := Aside0.mk H
                 clear H
                 go_wp2
                 go_meet
                 case rel => exact ⟨_, (decide (x8_20 < 0)), (by first | rfl | (simp; done) | (simp [*]; done)), H', ⟨by have := HJ3.out; have := HJ6.out; have := HJ10.out; have := HJ13.out; have := HJ20.out; first | omega | exact Nat.le_refl _⟩, ⟨BQ⟩⟩
                ·rw [if_neg c25] at H
                 have c25b0 : (a1 == 2) = false := beq_eq_false_iff_ne.mpr c25
                 have c25b1 : (a1 != 2) = true := bne_iff_ne.mpr c25
                 have H' := Aside0.mk H
                 clear H
                 go_wp2
                 go_meet
                 case rel => exact ⟨_, (false), (by first | rfl | (simp; done) | (simp [*]; done)), H', ⟨by have := HJ3.out; have := HJ6.out; have := HJ10.out; have := HJ13.out; have := HJ20.out; first | omega | exact Nat.le_refl _⟩, ⟨BQ⟩⟩
              case rest =>
               clear HC23
               try clear c1
               try clear c2
               try clear p2 p2
               try clear c3
               try clear c5
               try clear c5b0
               try clear c6
               try clear c8
               try clear c8b0
               try clear c9
               try clear c10
               try clear c10b0
               try clear c10b1
               try clear c12
               try clear c12b0
               try clear c12b1
               try clear c15
               try clear c15b0
               try clear c15b1
               try clear c16
               try clear c16b0
               try clear c22
               try clear c24
               try clear c24b0
               try clear c24b1
               try clear c25
               try clear c25b0
               try clear c25b1
               obtain ⟨kq, x51_22, rfl, HA, HJ22, HB⟩ := hcut
               cases kq with
               | zero => exact absurd HA.out (by simp [payoffref02_Adjust.j5])
               | succ kj22 =>
                have H := HA.out
                clear HA
                simp only [payoffref02_Adjust.j5] at H
                by_cases c26 : x51_22 = true
                ·subst c26
                 have H1 : ((payoffref02_from.f kj22 a0 (-1) l2).bind fun t104 => (if t104 < 0 then (some (0, 2)) else (some (t104, 0)))) = some (r1, r2) := by rw [if_pos rfl] at H; exact H
                 clear H
                 have H := H1
                 clear H1
                 replace H := Option.bind_eq_some_iff.mp H
                 obtain ⟨t104, A270, H⟩ := H
                 replace H : (if t104 < 0 then (some (0, 2)) else (some (t104, 0))) = some (r1, r2) := H
                 have A27 := Aside0.mk A270
                 clear A270
                 by_cases c28 : t104 < 0
                 ·rw [if_pos c28] at H
                  have c28b0 : decide (t104 < 0) = true := decide_eq_true c28
                  clear c28
                  simp only [Option.some.injEq, Prod.mk.injEq] at H
                  obtain ⟨rfl, rfl⟩ := H
                  go_wp2_with (first | ((with_reducible refine gate_callee (f := 59) rfl ?_); refine goesL_ (some 54) rfl rfl Tryd.func59 (by kernel_rfl) rfl #[.int .i64 a0, .int .i64 (-1), .slice A2 l2.length c2] rfl SQ ?_; (with_reducible refine (payoffref02_from.calls kj22 a0 (-1) _ _ l2 t104 _ ?side1 ?side2 A27.out).mono ?_); (case side1 => repeat (first | exact (Kd.C_below HR2.out HB.out) | (with_reducible refine Kd.C_alloc ?_ _) | (with_reducible refine Kd.C_drewN ?_ _) | (with_reducible refine Kd.C_drew ?_))); (case side2 => exact HC2.out); rintro e w' ⟨rfl, ⟨nd, rfl⟩⟩; refine ⟨_, rfl, ?_⟩))
                  go_ret2
                  exact ⟨RQ, BQ⟩
                 ·rw [if_neg c28] at H
                  have c28b0 : decide (t104 < 0) = false := decide_eq_false c28
                  clear c28
                  simp only [Option.some.injEq, Prod.mk.injEq] at H
                  obtain ⟨rfl, rfl⟩ := H
                  go_wp2_with (first | ((with_reducible refine gate_callee (f := 59) rfl ?_); refine goesL_ (some 54) rfl rfl Tryd.func59 (by kernel_rfl) rfl #[.int .i64 a0, .int .i64 (-1), .slice A2 l2.length c2] rfl SQ ?_; (with_reducible refine (payoffref02_from.calls kj22 a0 (-1) _ _ l2 t104 _ ?side1 ?side2 A27.out).mono ?_); (case side1 => repeat (first | exact (Kd.C_below HR2.out HB.out) | (with_reducible refine Kd.C_alloc ?_ _) | (with_reducible refine Kd.C_drewN ?_ _) | (with_reducible refine Kd.C_drew ?_))); (case side2 => exact HC2.out); rintro e w' ⟨rfl, ⟨nd, rfl⟩⟩; refine ⟨_, rfl, ?_⟩))
                  go_ret2
                  exact ⟨RQ, BQ⟩
                ·replace c26 := Bool.eq_false_iff.mpr c26
                 subst c26
                 have H1 : (if x8_20 < 0 then (some (0, 2)) else (some (x8_20, 0))) = some (r1, r2) := by rw [if_neg (show ¬ (false = true) by decide)] at H; exact H
                 clear H
                 have H := H1
                 clear H1
                 by_cases c29 : x8_20 < 0
                 ·rw [if_pos c29] at H
                  have c29b0 : decide (x8_20 < 0) = true := decide_eq_true c29
                  clear c29
                  simp only [Option.some.injEq, Prod.mk.injEq] at H
                  obtain ⟨rfl, rfl⟩ := H
                  go_wp2
                  go_ret2
                  exact ⟨RQ, BQ⟩
                 ·rw [if_neg c29] at H
                  have c29b0 : decide (x8_20 < 0) = false := decide_eq_false c29
                  clear c29
                  simp only [Option.some.injEq, Prod.mk.injEq] at H
                  obtain ⟨rfl, rfl⟩ := H
                  go_wp2
                  go_ret2
                  exact ⟨RQ, BQ⟩

end Go.Proofs.YtdebllinaffceaaDoor.M
