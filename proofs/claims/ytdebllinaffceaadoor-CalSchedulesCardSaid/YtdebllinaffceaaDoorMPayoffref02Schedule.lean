import Derived.Test.YtdebllinaffceaaDoorVWords
import Derived.Test.YtdebllinaffceaaDoorMx0
import Derived.Test.YtdebllinaffceaaDoorMPayoffref02Day
import Derived.Test.YtdebllinaffceaaDoorMPayoffref02ValidTenor
import Derived.Test.YtdebllinaffceaaDoorMPayoffref02Add
import Derived.Test.YtdebllinaffceaaDoorMPayoffref02Adjust
namespace Go.Proofs.YtdebllinaffceaaDoor.M
open Go.RowKit Go.Proofs.YtdebllinaffceaaDoorW.PrintWords Go.Proofs.YtdebllinaffceaaDoorW.PrintLast Go.Proofs.YtdebllinaffceaaDoorW.PrintMore
attribute [local go_sem] max2_int min2_int max_two min_two max_three min_three max_four min_four   -- for this text's walks alone
set_option linter.unusedVariables false
set_option linter.unusedSimpArgs false

/-! ### payoffref02_Schedule: function 37 -/
mutual
def payoffref02_Schedule.j0 : Nat → Int → List (S23) → Bool → Int → Int → Int → Int → Int → Int → Int → Int → Option (List Int × Int)
 | 0, _, _, _, _, _, _, _, _, _, _, _ => none
 | k + 1, x3, x4, x38, x102000, x102001, x102002, x103000, x103001, x103002, x104000, x104001 => if x38 = true then (some (([] : List Int), 1)) else ((payoffref02_Day.f k x102000 x102001 x102002).bind fun bt105 => ((payoffref02_Day.f k x103000 x103001 x103002).bind fun bt107 => (if bt105.2 = 0 then (payoffref02_Schedule.j1 k x3 x4 bt105.1 bt107.1 (bt107.2 != 0) x102000 x102001 x102002 x104000 x104001) else (payoffref02_Schedule.j1 k x3 x4 bt105.1 bt107.1 true x102000 x102001 x102002 x104000 x104001))))
def payoffref02_Schedule.j1 : Nat → Int → List (S23) → Int → Int → Bool → Int → Int → Int → Int → Int → Option (List Int × Int)
 | 0, _, _, _, _, _, _, _, _, _, _ => none
 | k + 1, x3, x4, x13, x15, x54, x102000, x102001, x102002, x104000, x104001 => if x54 = true then (some (([] : List Int), 21)) else (payoffref02_Schedule.l0 k x3 x4 x13 x15 ([] : List Int) 0 x102000 x102001 x102002 x104000 x104001)
def payoffref02_Schedule.l0 : Nat → Int → List (S23) → Int → Int → List Int → Int → Int → Int → Int → Int → Int → Option (List Int × Int)
 | 0, _, _, _, _, _, _, _, _, _, _, _ => none
 | k + 1, x3, x4, x13, x15, x17, x18, x102000, x102001, x102002, x104000, x104001 => if x18 < (x4.length : Int) then (if 0 ≤ x18 then ((payoffref02_Day.f k ((rd_T23 x4 x18).f0) ((rd_T23 x4 x18).f1) ((rd_T23 x4 x18).f2)).bind fun bt110 => (if bt110.2 = 0 then (if x17.length < 17592186044416 then (payoffref02_Schedule.l0 k x3 x4 x13 x15 (x17 ++ [bt110.1]) (wrap64 (x18 + 1)) x102000 x102001 x102002 x104000 x104001) else (none)) else (some (([] : List Int), 21)))) else (none)) else (if x13 > x15 then (some (([] : List Int), 2)) else (payoffref02_Schedule.l1 k x3 x15 x17 ([] : List Int) 0 x102000 x102001 x102002 x104000 x104001))
def payoffref02_Schedule.l1 : Nat → Int → Int → List Int → List Int → Int → Int → Int → Int → Int → Int → Option (List Int × Int)
 | 0, _, _, _, _, _, _, _, _, _, _ => none
 | k + 1, x3, x15, x17, x21, x22, x102000, x102001, x102002, x104000, x104001 => (payoffref02_Add.f k x102000 x102001 x102002 x104000 x104001 x22).bind fun bt115 => ((payoffref02_Day.f k bt115.1 bt115.2.1 bt115.2.2.1).bind fun bt120 => (if bt115.2.2.2 = 0 then (payoffref02_Schedule.j4 k x3 x15 x17 x21 x22 bt120.1 (decide (bt120.1 > x15)) x102000 x102001 x102002 x104000 x104001) else (payoffref02_Schedule.j4 k x3 x15 x17 x21 x22 bt120.1 true x102000 x102001 x102002 x104000 x104001)))
def payoffref02_Schedule.j4 : Nat → Int → Int → List Int → List Int → Int → Int → Bool → Int → Int → Int → Int → Int → Option (List Int × Int)
 | 0, _, _, _, _, _, _, _, _, _, _, _, _ => none
 | k + 1, x3, x15, x17, x21, x22, x25, x98, x102000, x102001, x102002, x104000, x104001 => if x98 = true then (some (x21, 0)) else ((payoffref02_Adjust.f k x25 x3 x17).bind fun bt122 => (if bt122.2 = 0 then (if (x21.length : Int) = 0 then (if x21.length < 17592186044416 then (payoffref02_Schedule.l1 k x3 x15 x17 (x21 ++ [bt122.1]) (wrap64 (x22 + 1)) x102000 x102001 x102002 x104000 x104001) else (none)) else (if 0 ≤ (wrap64 ((x21.length : Int) - 1)) then (if (wrap64 ((x21.length : Int) - 1)) < (x21.length : Int) then (if (rd x21 (wrap64 ((x21.length : Int) - 1))) = bt122.1 then (payoffref02_Schedule.l1 k x3 x15 x17 x21 (wrap64 (x22 + 1)) x102000 x102001 x102002 x104000 x104001) else (if x21.length < 17592186044416 then (payoffref02_Schedule.l1 k x3 x15 x17 (x21 ++ [bt122.1]) (wrap64 (x22 + 1)) x102000 x102001 x102002 x104000 x104001) else (none))) else (none)) else (none))) else (some (([] : List Int), 2))))
end
def payoffref02_Schedule.f (k : Nat) (a0_0 : Int) (a0_1 : Int) (a0_2 : Int) (a1_0 : Int) (a1_1 : Int) (a1_2 : Int) (a2_0 : Int) (a2_1 : Int) (a3 : Int) (l4 : List (S23)) : Option (List Int × Int) := (payoffref02_ValidTenor.f a2_0 a2_1).bind fun t104 => (if t104 = true then (if a3 < 0 then (payoffref02_Schedule.j0 k a3 l4 true a0_0 a0_1 a0_2 a1_0 a1_1 a1_2 a2_0 a2_1) else (payoffref02_Schedule.j0 k a3 l4 (decide (a3 > 3)) a0_0 a0_1 a0_2 a1_0 a1_1 a1_2 a2_0 a2_1)) else (payoffref02_Schedule.j0 k a3 l4 true a0_0 a0_1 a0_2 a1_0 a1_1 a1_2 a2_0 a2_1))
set_option maxHeartbeats 8000000 in
set_option maxRecDepth 100000 in
theorem payoffref02_Schedule.calls (k : Nat) (a0_0 : Int) (a0_1 : Int) (a0_2 : Int) (a1_0 : Int) (a1_1 : Int) (a1_2 : Int) (a2_0 : Int) (a2_1 : Int) (a3 : Int) (A4 : Option Addr) (c4 : Nat) (l4 : List (S23)) (r1 : List Int) (r2 : Int) (w : World) (hr4 : Kd.C k23 w A4 l4.length l4) (hc4 : l4.length ≤ c4) (h : payoffref02_Schedule.f k a0_0 a0_1 a0_2 a1_0 a1_1 a1_2 a2_0 a2_1 a3 l4 = some (r1, r2)) :
  Calls Tryd.prog 37 #[.agg #[.int .i64 a0_0, .int .i64 a0_1, .int .i64 a0_2], .agg #[.int .i64 a1_0, .int .i64 a1_1, .int .i64 a1_2], .agg #[.int .i64 a2_0, .int .i64 a2_1], .int .i64 a3, .slice A4 l4.length c4] w fun e w' => ∃ v0_ : Value, e = .returned (.tuple #[v0_, .int .i64 r2]) ∧ Kd.R (Kd.int .i64) 3 w' w.heap.size (fun _ => True) v0_ r1 ∧ Below w.heap.size w w' := by
 have hu23 := Tryd.underlying23
 have hu41 := Tryd.underlying41
 have HR4 := Aside0.mk hr4
 have HC4 := Aside0.mk hc4
 clear hr4 hc4
 have HB := Aside0.mk (Below.refl w.heap.size w)
 have H : ((payoffref02_ValidTenor.f a2_0 a2_1).bind fun t104 => (if t104 = true then (if a3 < 0 then (payoffref02_Schedule.j0 k a3 l4 true a0_0 a0_1 a0_2 a1_0 a1_1 a1_2 a2_0 a2_1) else (payoffref02_Schedule.j0 k a3 l4 (decide (a3 > 3)) a0_0 a0_1 a0_2 a1_0 a1_1 a1_2 a2_0 a2_1)) else (payoffref02_Schedule.j0 k a3 l4 true a0_0 a0_1 a0_2 a1_0 a1_1 a1_2 a2_0 a2_1))) = some (r1, r2) := h
 clear h
 replace H := Option.bind_eq_some_iff.mp H
 obtain ⟨t104, A60, H⟩ := H
 replace H : (if t104 = true then (if a3 < 0 then (payoffref02_Schedule.j0 k a3 l4 true a0_0 a0_1 a0_2 a1_0 a1_1 a1_2 a2_0 a2_1) else (payoffref02_Schedule.j0 k a3 l4 (decide (a3 > 3)) a0_0 a0_1 a0_2 a1_0 a1_1 a1_2 a2_0 a2_1)) else (payoffref02_Schedule.j0 k a3 l4 true a0_0 a0_1 a0_2 a1_0 a1_1 a1_2 a2_0 a2_1)) = some (r1, r2) := H
 have A6 := Aside0.mk A60
 clear A60
 have HC7 := Aside0.mk H
 clear H
 go_enter Tryd.func37, Tryd.ntmps37
 go_upto_region 2 with (first | ((with_reducible refine gate_dst (N := 5) rfl ?_); (try (refine gate_guard (by rfl) ?_; dsimp only)); refine box_event ?hg (N := 5) ?hd (cs := #[.int .i64 a0_0, .int .i64 a0_1, .int .i64 a0_2]) (t := 23) ?hr ?_; (case hd => rfl); (case hg => rfl); (case hr => first | (go_simp; done) | (go_simp; rfl)); intro gb101 hg w8 hbox hb; have n0_ := Aside0.mk (below_step (BQ) hb); have n1_ := Aside0.mk (hbox); have n2_ := Aside0.mk ((by rw [hg]; exact (below_size (BQ)) : w.heap.size ≤ gb101)); have n3_ := Aside0.mk ((by rw [hg]; exact (below_size (BQ)) : w.heap.size ≤ gb101)); clear HB; have HB := n0_; have BK101 := n1_; have GW101 := n2_; have GE101 := n3_; clear n0_ n1_ n2_ n3_; clear hb hbox hg) | ((with_reducible refine gate_dst (N := 6) rfl ?_); (try (refine gate_guard (by rfl) ?_; dsimp only)); refine box_event ?hg (N := 6) ?hd (cs := #[.int .i64 a1_0, .int .i64 a1_1, .int .i64 a1_2]) (t := 23) ?hr ?_; (case hd => rfl); (case hg => rfl); (case hr => first | (go_simp; done) | (go_simp; rfl)); intro gb102 hg w9 hbox hb; have n0_ := Aside0.mk (blk_below (g := gb101) (o := .cells #[.int .i64 a0_0, .int .i64 a0_1, .int .i64 a0_2] 23 (0, 0)) ZQ hb); have n1_ := Aside0.mk (below_step (BQ) hb); have n2_ := Aside0.mk (hbox); have n3_ := Aside0.mk ((by rw [hg]; exact (below_size (BQ)) : w.heap.size ≤ gb102)); have n4_ := Aside0.mk ((by rw [hg]; exact (below_size (BQ)) : w.heap.size ≤ gb102)); have n5_ := Aside0.mk ((by rw [hg]; exact Nat.ne_of_lt (blk_lt (g := gb101) (o := .cells #[.int .i64 a0_0, .int .i64 a0_1, .int .i64 a0_2] 23 (0, 0)) ZQ) : gb101 ≠ gb102)); have n6_ := Aside0.mk ((by rw [hg]; exact Nat.ne_of_gt (blk_lt (g := gb101) (o := .cells #[.int .i64 a0_0, .int .i64 a0_1, .int .i64 a0_2] 23 (0, 0)) ZQ) : gb102 ≠ gb101)); clear BK101; clear HB; have BK101 := n0_; have HB := n1_; have BK102 := n2_; have GW102 := n3_; have GE102 := n4_; have NB101_102 := n5_; have NB102_101 := n6_; clear n0_ n1_ n2_ n3_ n4_ n5_ n6_; clear hb hbox hg) | ((with_reducible refine gate_dst (N := 7) rfl ?_); (try (refine gate_guard (by rfl) ?_; dsimp only)); refine box_event ?hg (N := 7) ?hd (cs := #[.int .i64 a2_0, .int .i64 a2_1]) (t := 41) ?hr ?_; (case hd => rfl); (case hg => rfl); (case hr => first | (go_simp; done) | (go_simp; rfl)); intro gb103 hg w10 hbox hb; have n0_ := Aside0.mk (blk_below (g := gb101) (o := .cells #[.int .i64 a0_0, .int .i64 a0_1, .int .i64 a0_2] 23 (0, 0)) ZQ hb); have n1_ := Aside0.mk (blk_below (g := gb102) (o := .cells #[.int .i64 a1_0, .int .i64 a1_1, .int .i64 a1_2] 23 (0, 0)) ZQ hb); have n2_ := Aside0.mk (below_step (BQ) hb); have n3_ := Aside0.mk (hbox); have n4_ := Aside0.mk ((by rw [hg]; exact (below_size (BQ)) : w.heap.size ≤ gb103)); have n5_ := Aside0.mk ((by rw [hg]; exact (below_size (BQ)) : w.heap.size ≤ gb103)); have n6_ := Aside0.mk ((by rw [hg]; exact Nat.ne_of_lt (blk_lt (g := gb101) (o := .cells #[.int .i64 a0_0, .int .i64 a0_1, .int .i64 a0_2] 23 (0, 0)) ZQ) : gb101 ≠ gb103)); have n7_ := Aside0.mk ((by rw [hg]; exact Nat.ne_of_gt (blk_lt (g := gb101) (o := .cells #[.int .i64 a0_0, .int .i64 a0_1, .int .i64 a0_2] 23 (0, 0)) ZQ) : gb103 ≠ gb101)); have n8_ := Aside0.mk ((by rw [hg]; exact Nat.ne_of_lt (blk_lt (g := gb102) (o := .cells #[.int .i64 a1_0, .int .i64 a1_1, .int .i64 a1_2] 23 (0, 0)) ZQ) : gb102 ≠ gb103)); have n9_ := Aside0.mk ((by rw [hg]; exact Nat.ne_of_gt (blk_lt (g := gb102) (o := .cells #[.int .i64 a1_0, .int .i64 a1_1, .int .i64 a1_2] 23 (0, 0)) ZQ) : gb103 ≠ gb102)); clear BK101; clear BK102; clear HB; have BK101 := n0_; have BK102 := n1_; have HB := n2_; have BK103 := n3_; have GW103 := n4_; have GE103 := n5_; have NB101_103 := n6_; have NB103_101 := n7_; have NB102_103 := n8_; have NB103_102 := n9_; clear n0_ n1_ n2_ n3_ n4_ n5_ n6_ n7_ n8_ n9_; clear hb hbox hg; have hnb11 := NB103_101.out; have hnc11 := NB101_103.out; have hnb12 := NB103_102.out; have hnc12 := NB102_103.out; have hcz13_0 : w10.cell? ⟨gb103, 0, none⟩ = some (.int .i64 a2_0) := (blk_cell BK103.out 0).trans rfl; have hcz13_1 : w10.cell? ⟨gb103, 1, none⟩ = some (.int .i64 a2_1) := (blk_cell BK103.out 1).trans rfl; have hfz13_0 := blk_frozen BK103.out 0; have hfz13_1 := blk_frozen BK103.out 1) | ((with_reducible refine gate_callee (f := 55) rfl ?_); refine goesL_ (some 28) rfl rfl Tryd.func55 (by kernel_rfl) rfl #[.agg #[.int .i64 a2_0, .int .i64 a2_1]] rfl SQ ?_; (with_reducible refine (payoffref02_ValidTenor.calls a2_0 a2_1 t104 _ A6.out).mono ?_); rintro e w14 ⟨rfl, hb⟩; refine ⟨_, rfl, ?_⟩; have n0_ := Aside0.mk (blk_below (g := gb101) (o := .cells #[.int .i64 a0_0, .int .i64 a0_1, .int .i64 a0_2] 23 (0, 0)) ZQ hb); have n1_ := Aside0.mk (blk_below (g := gb102) (o := .cells #[.int .i64 a1_0, .int .i64 a1_1, .int .i64 a1_2] 23 (0, 0)) ZQ hb); have n2_ := Aside0.mk (blk_below (g := gb103) (o := .cells #[.int .i64 a2_0, .int .i64 a2_1] 41 (0, 0)) ZQ hb); have n3_ := Aside0.mk (below_step (BQ) hb); clear BK101; clear BK102; clear BK103; clear HB; have BK101 := n0_; have BK102 := n1_; have BK103 := n2_; have HB := n3_; clear n0_ n1_ n2_ n3_; (try clear hb); (try clear hb2); (try clear hk); (try clear hi)))
 (try simp only [Act.put, List.setIfInBounds_toArray, List.set_cons_zero, List.set_cons_succ])
 go_cut [38] (fun v38 wc => ∃ (kq : Nat) (x38_6 : Bool), v38 = .bool x38_6 ∧ Aside0 (payoffref02_Schedule.j0 kq a3 l4 x38_6 a0_0 a0_1 a0_2 a1_0 a1_1 a1_2 a2_0 a2_1 = some (r1, r2)) ∧ Aside0 (kq ≤ k) ∧ Aside0 (wc.heap[gb101]? = some (.cells #[.int .i64 a0_0, .int .i64 a0_1, .int .i64 a0_2] 23 (0, 0))) ∧ Aside0 (wc.heap[gb102]? = some (.cells #[.int .i64 a1_0, .int .i64 a1_1, .int .i64 a1_2] 23 (0, 0))) ∧ Aside0 (wc.heap[gb103]? = some (.cells #[.int .i64 a2_0, .int .i64 a2_1] 41 (0, 0))) ∧ Aside0 (Below w.heap.size w wc))
 case first =>
  have H := HC7.out
  clear HC7
  by_cases c15 : t104 = true
  ·subst c15
   have H1 : (if a3 < 0 then (payoffref02_Schedule.j0 k a3 l4 true a0_0 a0_1 a0_2 a1_0 a1_1 a1_2 a2_0 a2_1) else (payoffref02_Schedule.j0 k a3 l4 (decide (a3 > 3)) a0_0 a0_1 a0_2 a1_0 a1_1 a1_2 a2_0 a2_1)) = some (r1, r2) := by rw [if_pos rfl] at H; exact H
   clear H
   have H := H1
   clear H1
   by_cases c16 : a3 < 0
   ·rw [if_pos c16] at H
    have c16b0 : decide (a3 < 0) = true := decide_eq_true c16
    clear c16
    (first | rw [c16b0] | (simp only [i64_w, i32_w]; rw [c16b0]) | skip)
    have H' := Aside0.mk H
    clear H
    go_wp2
    go_meet
    case rel => exact ⟨_, (true), (by first | rfl | (simp; done) | (simp [*]; done)), H', ⟨by first | omega | exact Nat.le_refl _⟩, ⟨by (with_reducible repeat (first | refine blk_drewN ?_ _ | refine blk_drew ?_ | refine blk_alloc ?_ _)); exact BK101.out⟩, ⟨by (with_reducible repeat (first | refine blk_drewN ?_ _ | refine blk_drew ?_ | refine blk_alloc ?_ _)); exact BK102.out⟩, ⟨by (with_reducible repeat (first | refine blk_drewN ?_ _ | refine blk_drew ?_ | refine blk_alloc ?_ _)); exact BK103.out⟩, ⟨BQ⟩⟩
   ·rw [if_neg c16] at H
    have c16b0 : decide (a3 < 0) = false := decide_eq_false c16
    clear c16
    (first | rw [c16b0] | (simp only [i64_w, i32_w]; rw [c16b0]) | skip)
    have H' := Aside0.mk H
    clear H
    go_wp2
    go_meet
    case rel => exact ⟨_, (decide (a3 > 3)), (by first | rfl | (simp; done) | (simp [*]; done)), H', ⟨by first | omega | exact Nat.le_refl _⟩, ⟨by (with_reducible repeat (first | refine blk_drewN ?_ _ | refine blk_drew ?_ | refine blk_alloc ?_ _)); exact BK101.out⟩, ⟨by (with_reducible repeat (first | refine blk_drewN ?_ _ | refine blk_drew ?_ | refine blk_alloc ?_ _)); exact BK102.out⟩, ⟨by (with_reducible repeat (first | refine blk_drewN ?_ _ | refine blk_drew ?_ | refine blk_alloc ?_ _)); exact BK103.out⟩, ⟨BQ⟩⟩
  ·replace c15 := Bool.eq_false_iff.mpr c15
   subst c15
   have H1 : (payoffref02_Schedule.j0 k a3 l4 true a0_0 a0_1 a0_2 a1_0 a1_1 a1_2 a2_0 a2_1) = some (r1, r2) := by rw [if_neg (show ¬ (false = true) by decide)] at H; exact H
   clear H
   have H := H1
   clear H1
   have H' := Aside0.mk H
   clear H
   go_wp2
   go_meet
   case rel => exact ⟨_, (true), (by first | rfl | (simp; done) | (simp [*]; done)), H', ⟨by first | omega | exact Nat.le_refl _⟩, ⟨by (with_reducible repeat (first | refine blk_drewN ?_ _ | refine blk_drew ?_ | refine blk_alloc ?_ _)); exact BK101.out⟩, ⟨by (with_reducible repeat (first | refine blk_drewN ?_ _ | refine blk_drew ?_ | refine blk_alloc ?_ _)); exact BK102.out⟩, ⟨by (with_reducible repeat (first | refine blk_drewN ?_ _ | refine blk_drew ?_ | refine blk_alloc ?_ _)); exact BK103.out⟩, ⟨BQ⟩⟩
 case rest =>
  clear HC7
  try clear c1
  try clear p2
  try clear c3
  try clear c4
  try clear c5
  try clear c11
  try clear c12
  try clear c15
  try clear c16
  try clear c16b0
  try clear hcz13_0 hcz13_1
  try clear hfz13_0 hfz13_1
  obtain ⟨kq, x38_6, rfl, HA, HJ6, BK101, BK102, BK103, HB⟩ := hcut
  cases kq with
  | zero => exact absurd HA.out (by simp [payoffref02_Schedule.j0])
  | succ kj6 =>
   have H := HA.out
   clear HA
   simp only [payoffref02_Schedule.j0] at H
   by_cases c17 : x38_6 = true
   ·subst c17
    have H1 : (some (([] : List Int), 1)) = some (r1, r2) := by rw [if_pos rfl] at H; exact H
    clear H
    have H := H1
    clear H1
    simp only [Option.some.injEq, Prod.mk.injEq] at H
    obtain ⟨rfl, rfl⟩ := H
    go_wp2
    go_ret2
    exact ⟨_, by first | rfl | (simp [errW_none, errW_some] <;> rfl) | (simp [*, errW_none, errW_some] <;> rfl), by first | exact Kd.R_nil _ _ _ _ _ | exact Kd.N_nil _ _ _ _ _ | exact Kd.V_nil _ _ _ _ _ | exact Kd.Q_nil _ _ _ _ _ | exact Kd.S_nil _ _ _ _ _, BQ⟩
   ·replace c17 := Bool.eq_false_iff.mpr c17
    subst c17
    have H1 : ((payoffref02_Day.f kj6 a0_0 a0_1 a0_2).bind fun bt105 => ((payoffref02_Day.f kj6 a1_0 a1_1 a1_2).bind fun bt107 => (if bt105.2 = 0 then (payoffref02_Schedule.j1 kj6 a3 l4 bt105.1 bt107.1 (bt107.2 != 0) a0_0 a0_1 a0_2 a2_0 a2_1) else (payoffref02_Schedule.j1 kj6 a3 l4 bt105.1 bt107.1 true a0_0 a0_1 a0_2 a2_0 a2_1)))) = some (r1, r2) := by rw [if_neg (show ¬ (false = true) by decide)] at H; exact H
    clear H
    have H := H1
    clear H1
    replace H := Option.bind_eq_some_iff.mp H
    obtain ⟨⟨t105, t106⟩, A180, H⟩ := H
    replace H : ((payoffref02_Day.f kj6 a1_0 a1_1 a1_2).bind fun bt107 => (if t106 = 0 then (payoffref02_Schedule.j1 kj6 a3 l4 t105 bt107.1 (bt107.2 != 0) a0_0 a0_1 a0_2 a2_0 a2_1) else (payoffref02_Schedule.j1 kj6 a3 l4 t105 bt107.1 true a0_0 a0_1 a0_2 a2_0 a2_1))) = some (r1, r2) := H
    have A18 := Aside0.mk A180
    clear A180
    replace H := Option.bind_eq_some_iff.mp H
    obtain ⟨⟨t107, t108⟩, A190, H⟩ := H
    replace H : (if t106 = 0 then (payoffref02_Schedule.j1 kj6 a3 l4 t105 t107 (t108 != 0) a0_0 a0_1 a0_2 a2_0 a2_1) else (payoffref02_Schedule.j1 kj6 a3 l4 t105 t107 true a0_0 a0_1 a0_2 a2_0 a2_1)) = some (r1, r2) := H
    have A19 := Aside0.mk A190
    clear A190
    have HC20 := Aside0.mk H
    clear H
    have hnb21 := NB101_102.out
    have hnc21 := NB102_101.out
    have hnb22 := NB101_103.out
    have hnc22 := NB103_101.out
    have hcz23_0 : wc.cell? ⟨gb101, 0, none⟩ = some (.int .i64 a0_0) := (blk_cell BK101.out 0).trans rfl
    have hcz23_1 : wc.cell? ⟨gb101, 1, none⟩ = some (.int .i64 a0_1) := (blk_cell BK101.out 1).trans rfl
    have hcz23_2 : wc.cell? ⟨gb101, 2, none⟩ = some (.int .i64 a0_2) := (blk_cell BK101.out 2).trans rfl
    have hfz23_0 := blk_frozen BK101.out 0
    have hfz23_1 := blk_frozen BK101.out 1
    have hfz23_2 := blk_frozen BK101.out 2
    go_upto_region 6 with (first | ((with_reducible refine gate_callee (f := 20) rfl ?_); refine goesL_ (some 41) rfl rfl Tryd.func20 (by kernel_rfl) rfl #[.agg #[.int .i64 a0_0, .int .i64 a0_1, .int .i64 a0_2]] rfl SQ ?_; (with_reducible refine (payoffref02_Day.calls kj6 a0_0 a0_1 a0_2 t105 t106 _ A18.out).mono ?_); rintro e w24 ⟨rfl, hb⟩; refine ⟨_, rfl, ?_⟩; have n0_ := Aside0.mk (blk_below (g := gb101) (o := .cells #[.int .i64 a0_0, .int .i64 a0_1, .int .i64 a0_2] 23 (0, 0)) ZQ hb); have n1_ := Aside0.mk (blk_below (g := gb102) (o := .cells #[.int .i64 a1_0, .int .i64 a1_1, .int .i64 a1_2] 23 (0, 0)) ZQ hb); have n2_ := Aside0.mk (blk_below (g := gb103) (o := .cells #[.int .i64 a2_0, .int .i64 a2_1] 41 (0, 0)) ZQ hb); have n3_ := Aside0.mk (below_step (BQ) hb); clear BK101; clear BK102; clear BK103; clear HB; have BK101 := n0_; have BK102 := n1_; have BK103 := n2_; have HB := n3_; clear n0_ n1_ n2_ n3_; (try clear hb); (try clear hb2); (try clear hk); (try clear hi); have hnb25 := NB102_103.out; have hnc25 := NB103_102.out; have hcz26_0 : w24.cell? ⟨gb102, 0, none⟩ = some (.int .i64 a1_0) := (blk_cell BK102.out 0).trans rfl; have hcz26_1 : w24.cell? ⟨gb102, 1, none⟩ = some (.int .i64 a1_1) := (blk_cell BK102.out 1).trans rfl; have hcz26_2 : w24.cell? ⟨gb102, 2, none⟩ = some (.int .i64 a1_2) := (blk_cell BK102.out 2).trans rfl; have hfz26_0 := blk_frozen BK102.out 0; have hfz26_1 := blk_frozen BK102.out 1; have hfz26_2 := blk_frozen BK102.out 2) | ((with_reducible refine gate_callee (f := 20) rfl ?_); refine goesL_ (some 46) rfl rfl Tryd.func20 (by kernel_rfl) rfl #[.agg #[.int .i64 a1_0, .int .i64 a1_1, .int .i64 a1_2]] rfl SQ ?_; (with_reducible refine (payoffref02_Day.calls kj6 a1_0 a1_1 a1_2 t107 t108 _ A19.out).mono ?_); rintro e w27 ⟨rfl, hb⟩; refine ⟨_, rfl, ?_⟩; have n0_ := Aside0.mk (blk_below (g := gb101) (o := .cells #[.int .i64 a0_0, .int .i64 a0_1, .int .i64 a0_2] 23 (0, 0)) ZQ hb); have n1_ := Aside0.mk (blk_below (g := gb102) (o := .cells #[.int .i64 a1_0, .int .i64 a1_1, .int .i64 a1_2] 23 (0, 0)) ZQ hb); have n2_ := Aside0.mk (blk_below (g := gb103) (o := .cells #[.int .i64 a2_0, .int .i64 a2_1] 41 (0, 0)) ZQ hb); have n3_ := Aside0.mk (below_step (BQ) hb); clear BK101; clear BK102; clear BK103; clear HB; have BK101 := n0_; have BK102 := n1_; have BK103 := n2_; have HB := n3_; clear n0_ n1_ n2_ n3_; (try clear hb); (try clear hb2); (try clear hk); (try clear hi)))
    (try simp only [Act.put, List.setIfInBounds_toArray, List.set_cons_zero, List.set_cons_succ])
    go_cut [54] (fun v54 wc => ∃ (kq : Nat) (x54_19 : Bool), v54 = .bool x54_19 ∧ Aside0 (payoffref02_Schedule.j1 kq a3 l4 t105 t107 x54_19 a0_0 a0_1 a0_2 a2_0 a2_1 = some (r1, r2)) ∧ Aside0 (kq ≤ kj6) ∧ Aside0 (wc.heap[gb101]? = some (.cells #[.int .i64 a0_0, .int .i64 a0_1, .int .i64 a0_2] 23 (0, 0))) ∧ Aside0 (wc.heap[gb102]? = some (.cells #[.int .i64 a1_0, .int .i64 a1_1, .int .i64 a1_2] 23 (0, 0))) ∧ Aside0 (wc.heap[gb103]? = some (.cells #[.int .i64 a2_0, .int .i64 a2_1] 41 (0, 0))) ∧ Aside0 (Below w.heap.size w wc))
    case first =>
     have H := HC20.out
     clear HC20
     by_cases c28 : t106 = 0
     ·rw [if_pos c28] at H
      have c28b0 : (t106 == 0) = true := beq_iff_eq.mpr c28
      have c28b1 : (t106 != 0) = false := bne_eq_false_iff_eq.mpr c28
      clear c28
      (first | rw [c28b0] | (simp only [i64_w, i32_w]; rw [c28b0]) | skip)
      have H' := Aside0.mk H
      clear H
      go_wp2
      go_meet
      case rel => exact ⟨_, ((t108 != 0)), (by first | rfl | (simp; done) | (simp [*]; done)), H', ⟨by have := HJ6.out; first | omega | exact Nat.le_refl _⟩, ⟨by (with_reducible repeat (first | refine blk_drewN ?_ _ | refine blk_drew ?_ | refine blk_alloc ?_ _)); exact BK101.out⟩, ⟨by (with_reducible repeat (first | refine blk_drewN ?_ _ | refine blk_drew ?_ | refine blk_alloc ?_ _)); exact BK102.out⟩, ⟨by (with_reducible repeat (first | refine blk_drewN ?_ _ | refine blk_drew ?_ | refine blk_alloc ?_ _)); exact BK103.out⟩, ⟨BQ⟩⟩
     ·rw [if_neg c28] at H
      have c28b0 : (t106 == 0) = false := beq_eq_false_iff_ne.mpr c28
      have c28b1 : (t106 != 0) = true := bne_iff_ne.mpr c28
      (first | rw [c28b0] | (simp only [i64_w, i32_w]; rw [c28b0]) | skip)
      have H' := Aside0.mk H
      clear H
      go_wp2
      go_meet
      case rel => exact ⟨_, (true), (by first | rfl | (simp; done) | (simp [*]; done)), H', ⟨by have := HJ6.out; first | omega | exact Nat.le_refl _⟩, ⟨by (with_reducible repeat (first | refine blk_drewN ?_ _ | refine blk_drew ?_ | refine blk_alloc ?_ _)); exact BK101.out⟩, ⟨by (with_reducible repeat (first | refine blk_drewN ?_ _ | refine blk_drew ?_ | refine blk_alloc ?_ _)); exact BK102.out⟩, ⟨by (with_reducible repeat (first | refine blk_drewN ?_ _ | refine blk_drew ?_ | refine blk_alloc ?_ _)); exact BK103.out⟩, ⟨BQ⟩⟩
    case rest =>
     clear HC20
     try clear c1
     try clear c2
     try clear p2 p2
     try clear c3
     try clear c4
     try clear c5
     try clear c11
     try clear c12
     try clear c15
     try clear c16
     try clear c16b0
     try clear c17
     try clear c20
     try clear c21
     try clear c22
     try clear c25
     try clear c28
     try clear c28b0
     try clear c28b1
     try clear hcz13_0 hcz13_1
     try clear hcz23_0 hcz23_1 hcz23_2
     try clear hcz26_0 hcz26_1 hcz26_2
     try clear hfz13_0 hfz13_1
     try clear hfz23_0 hfz23_1 hfz23_2
     try clear hfz26_0 hfz26_1 hfz26_2
     obtain ⟨kq, x54_19, rfl, HA, HJ19, BK101, BK102, BK103, HB⟩ := hcut
     cases kq with
     | zero => exact absurd HA.out (by simp [payoffref02_Schedule.j1])
     | succ kj19 =>
      have H := HA.out
      clear HA
      simp only [payoffref02_Schedule.j1] at H
      by_cases c29 : x54_19 = true
      ·subst c29
       have H1 : (some (([] : List Int), 21)) = some (r1, r2) := by rw [if_pos rfl] at H; exact H
       clear H
       have H := H1
       clear H1
       simp only [Option.some.injEq, Prod.mk.injEq] at H
       obtain ⟨rfl, rfl⟩ := H
       go_wp2
       go_ret2
       exact ⟨_, by first | rfl | (simp [errW_none, errW_some] <;> rfl) | (simp [*, errW_none, errW_some] <;> rfl), by first | exact Kd.R_nil _ _ _ _ _ | exact Kd.N_nil _ _ _ _ _ | exact Kd.V_nil _ _ _ _ _ | exact Kd.Q_nil _ _ _ _ _ | exact Kd.S_nil _ _ _ _ _, BQ⟩
      ·replace c29 := Bool.eq_false_iff.mpr c29
       subst c29
       have H1 : (payoffref02_Schedule.l0 kj19 a3 l4 t105 t107 ([] : List Int) 0 a0_0 a0_1 a0_2 a2_0 a2_1) = some (r1, r2) := by rw [if_neg (show ¬ (false = true) by decide)] at H; exact H
       clear H
       have H := H1
       clear H1
       have H' := Aside0.mk H
       clear H
       go_wp2
       go_loopg [17, 18] kj19 (fun kq v17 v18 w' => ∃ (x17_3 : List Int) (x18_3 : Int), v18 = .int .i64 x18_3 ∧ Aside0 (payoffref02_Schedule.l0 kq a3 l4 t105 t107 x17_3 x18_3 a0_0 a0_1 a0_2 a2_0 a2_1 = some (r1, r2)) ∧ Aside0 (kq ≤ kj19) ∧ Aside0 (Kd.R (Kd.int .i64) 3 w' w.heap.size (fun _ => True) v17 x17_3) ∧ Aside0 (w'.heap[gb101]? = some (.cells #[.int .i64 a0_0, .int .i64 a0_1, .int .i64 a0_2] 23 (0, 0))) ∧ Aside0 (w'.heap[gb102]? = some (.cells #[.int .i64 a1_0, .int .i64 a1_1, .int .i64 a1_2] 23 (0, 0))) ∧ Aside0 (w'.heap[gb103]? = some (.cells #[.int .i64 a2_0, .int .i64 a2_1] 41 (0, 0))) ∧ Aside0 (Below w.heap.size w w'))
       case atStart => exact ⟨(([] : List Int)), (0), (by first | rfl | (simp; done) | (simp [*]; done)), H', ⟨Nat.le_refl _⟩, ⟨by first | exact Kd.R_nil _ _ _ _ _ | exact Kd.N_nil _ _ _ _ _ | exact Kd.V_nil _ _ _ _ _ | exact Kd.Q_nil _ _ _ _ _ | exact Kd.S_nil _ _ _ _ _⟩, ⟨by (with_reducible repeat (first | refine blk_drewN ?_ _ | refine blk_drew ?_ | refine blk_alloc ?_ _)); exact BK101.out⟩, ⟨by (with_reducible repeat (first | refine blk_drewN ?_ _ | refine blk_drew ?_ | refine blk_alloc ?_ _)); exact BK102.out⟩, ⟨by (with_reducible repeat (first | refine blk_drewN ?_ _ | refine blk_drew ?_ | refine blk_alloc ?_ _)); exact BK103.out⟩, ⟨BQ⟩⟩
       case round =>
        clear H'
        try clear c1
        try clear c2
        try clear p2 p2
        try clear c3
        try clear c4
        try clear c5
        try clear c11
        try clear c12
        try clear c15
        try clear c16
        try clear c16b0
        try clear c17
        try clear c20
        try clear c21
        try clear c22
        try clear c25
        try clear c28
        try clear c28b0
        try clear c28b1
        try clear c29
        try clear hcz13_0 hcz13_1
        try clear hcz23_0 hcz23_1 hcz23_2
        try clear hcz26_0 hcz26_1 hcz26_2
        try clear hfz13_0 hfz13_1
        try clear hfz23_0 hfz23_1 hfz23_2
        try clear hfz26_0 hfz26_1 hfz26_2
        obtain ⟨x17_3, x18_3, rfl, HA, HK3, HO_17, BK101, BK102, BK103, HB⟩ := hrel
        cases gk with
        | zero => exact absurd HA.out (by simp [payoffref02_Schedule.l0])
        | succ k3 =>
         have H := HA.out
         clear HA
         simp only [payoffref02_Schedule.l0] at H
         by_cases c30 : x18_3 < (l4.length : Int)
         ·rw [if_pos c30] at H
          have c30b0 : decide (x18_3 < (l4.length : Int)) = true := decide_eq_true c30
          clear c30
          by_cases c31 : 0 ≤ x18_3
          ·rw [if_pos c31] at H
           have c31b0 : decide (0 ≤ x18_3) = true := decide_eq_true c31
           clear c31
           replace H := Option.bind_eq_some_iff.mp H
           obtain ⟨⟨t110, t111⟩, A320, H⟩ := H
           replace H : (if t111 = 0 then (if x17_3.length < 17592186044416 then (payoffref02_Schedule.l0 k3 a3 l4 t105 t107 (x17_3 ++ [t110]) (wrap64 (x18_3 + 1)) a0_0 a0_1 a0_2 a2_0 a2_1) else (none)) else (some (([] : List Int), 21))) = some (r1, r2) := H
           have A32 := Aside0.mk A320
           clear A320
           by_cases c33 : t111 = 0
           ·rw [if_pos c33] at H
            have c33b0 : (t111 == 0) = true := beq_iff_eq.mpr c33
            have c33b1 : (t111 != 0) = false := bne_eq_false_iff_eq.mpr c33
            clear c33
            by_cases c34 : x17_3.length < 17592186044416
            ·rw [if_pos c34] at H
             have LMc34 := Aside0.mk c34
             clear c34
             obtain ⟨y112, hy112⟩ : ∃ y_ : List Int, y_ = (x17_3 ++ [t110]) := ⟨_, rfl⟩
             replace H : (payoffref02_Schedule.l0 k3 a3 l4 t105 t107 y112 (wrap64 (x18_3 + 1)) a0_0 a0_1 a0_2 a2_0 a2_1) = some (r1, r2) := by first | (rw [hy112]; with_reducible exact H) | (have H2_ := (Option.bind_some _ _).symm.trans H; rw [hy112]; with_reducible exact H2_) | (have H2_ := (Option.bind_some _ _).symm.trans H; with_reducible exact H2_) | with_reducible exact H | (rw [hy112]; exact H) | exact H
             have Ny112 := Aside0.mk hy112
             clear hy112
             have H' := Aside0.mk H
             clear H
             have p109 : 0 ≤ (x18_3 : Int) := of_decide_eq_true (by first | (with_reducible assumption) | assumption)
             have q109 : x18_3 < (l4.length : Int) := of_decide_eq_true (by first | (with_reducible assumption) | assumption)
             obtain ⟨ad109, e109, hx109_0, hx109_1, hx109_2⟩ := at_T23 HR4.out x18_3 p109 q109
             cases e109
             replace hx109_0 := (HB.out.cell (World.block_lt_of_cell? w _ hx109_0)).trans hx109_0
             replace hx109_1 := (HB.out.cell (World.block_lt_of_cell? w _ hx109_1)).trans hx109_1
             replace hx109_2 := (HB.out.cell (World.block_lt_of_cell? w _ hx109_2)).trans hx109_2
             replace p109 := eq_true p109
             replace q109 := eq_true q109
             go_wp2_with (first | ((with_reducible refine gate_callee (f := 20) rfl ?_); refine goesL_ (some 66) rfl rfl Tryd.func20 (by kernel_rfl) rfl #[.agg #[.int .i64 ((rd_T23 l4 x18_3).f0), .int .i64 ((rd_T23 l4 x18_3).f1), .int .i64 ((rd_T23 l4 x18_3).f2)]] rfl SQ ?_; (with_reducible refine (payoffref02_Day.calls k3 ((rd_T23 l4 x18_3).f0) ((rd_T23 l4 x18_3).f1) ((rd_T23 l4 x18_3).f2) t110 t111 _ A32.out).mono ?_); rintro e w35 ⟨rfl, hb⟩; refine ⟨_, rfl, ?_⟩; have n0_ := Aside0.mk (Kd.R_below (by (with_reducible repeat (first | apply kA | apply kN | apply kD)); exact HO_17.out) hb); have n1_ := Aside0.mk (blk_below (g := gb101) (o := .cells #[.int .i64 a0_0, .int .i64 a0_1, .int .i64 a0_2] 23 (0, 0)) ZQ hb); have n2_ := Aside0.mk (blk_below (g := gb102) (o := .cells #[.int .i64 a1_0, .int .i64 a1_1, .int .i64 a1_2] 23 (0, 0)) ZQ hb); have n3_ := Aside0.mk (blk_below (g := gb103) (o := .cells #[.int .i64 a2_0, .int .i64 a2_1] 41 (0, 0)) ZQ hb); have n4_ := Aside0.mk (below_step (BQ) hb); clear HO_17; clear BK101; clear BK102; clear BK103; clear HB; have HO_17 := n0_; have BK101 := n1_; have BK102 := n2_; have BK103 := n3_; have HB := n4_; clear n0_ n1_ n2_ n3_ n4_; (try clear hb); (try clear hb2); (try clear hk); (try clear hi)) | ((with_reducible refine gate_builtin (b := .append) (xs := #[.tmp 71, .tmp 73]) rfl ?_); (try (refine gate_guard (by rfl) ?_; dsimp only)); at_builtin; refine Kd.R_append (Kd.int .i64) (w0 := w) w.heap.size rfl (.tmp 71) (.tmp 73) 45 3 (.int .i64 0) 8 rfl Tryd.underlying45 info3 rfl (by decide) (by omega) u17 x17_3 t110 [.int .i64 t110] (fun _ => True) (fun _ => False) rfl rfl ?aP (fun _ hk => hk.elim) ?aF ?aO ?aB ?aS ?aL ?_; (case aP => exact rfl); (case aB => exact (BQ)); (case aF => exact (fun _ _ => trivial)); (case aO => exact (by (with_reducible repeat (first | apply kA | apply kN | apply kD)); exact HO_17.out)); (case aS => exact (below_size (BQ))); (case aL => have := LMc34.out; omega); intro v113 w36 ho hb hg hat; rw [← Ny112.out] at ho; have n0_ := Aside0.mk (blk_grown (g := gb101) (o := .cells #[.int .i64 a0_0, .int .i64 a0_1, .int .i64 a0_2] 23 (0, 0)) ZQ hg (Kd.R_ne HO_17.out BK101.out (by decide))); have n1_ := Aside0.mk (blk_grown (g := gb102) (o := .cells #[.int .i64 a1_0, .int .i64 a1_1, .int .i64 a1_2] 23 (0, 0)) ZQ hg (Kd.R_ne HO_17.out BK102.out (by decide))); have n2_ := Aside0.mk (blk_grown (g := gb103) (o := .cells #[.int .i64 a2_0, .int .i64 a2_1] 41 (0, 0)) ZQ hg (Kd.R_ne HO_17.out BK103.out (by decide))); have n3_ := Aside0.mk (hb); have n4_ := Aside0.mk (ho); clear BK101; clear BK102; clear BK103; clear HB; clear HO_17; have BK101 := n0_; have BK102 := n1_; have BK103 := n2_; have HB := n3_; have HO114 := n4_; clear n0_ n1_ n2_ n3_ n4_; clear ho hb hg hat))
             go_roundg k3
             case measure => have := HJ6.out; have := HJ19.out; have := HK3.out; omega
             case rel => exact ⟨(y112), (wrap64 (x18_3 + 1)), (by first | rfl | (simp; done) | (simp [*]; done)), H', ⟨by have := HJ6.out; have := HJ19.out; have := HK3.out; omega⟩, ⟨by (with_reducible repeat (first | apply kA | apply kN | apply kD)); exact HO114.out⟩, ⟨by (with_reducible repeat (first | refine blk_drewN ?_ _ | refine blk_drew ?_ | refine blk_alloc ?_ _)); exact BK101.out⟩, ⟨by (with_reducible repeat (first | refine blk_drewN ?_ _ | refine blk_drew ?_ | refine blk_alloc ?_ _)); exact BK102.out⟩, ⟨by (with_reducible repeat (first | refine blk_drewN ?_ _ | refine blk_drew ?_ | refine blk_alloc ?_ _)); exact BK103.out⟩, ⟨BQ⟩⟩
            ·rw [if_neg c34] at H
             exact absurd H (by simp)
           ·rw [if_neg c33] at H
            have c33b0 : (t111 == 0) = false := beq_eq_false_iff_ne.mpr c33
            have c33b1 : (t111 != 0) = true := bne_iff_ne.mpr c33
            simp only [Option.some.injEq, Prod.mk.injEq] at H
            obtain ⟨rfl, rfl⟩ := H
            have p109 : 0 ≤ (x18_3 : Int) := of_decide_eq_true (by first | (with_reducible assumption) | assumption)
            have q109 : x18_3 < (l4.length : Int) := of_decide_eq_true (by first | (with_reducible assumption) | assumption)
            obtain ⟨ad109, e109, hx109_0, hx109_1, hx109_2⟩ := at_T23 HR4.out x18_3 p109 q109
            cases e109
            replace hx109_0 := (HB.out.cell (World.block_lt_of_cell? w _ hx109_0)).trans hx109_0
            replace hx109_1 := (HB.out.cell (World.block_lt_of_cell? w _ hx109_1)).trans hx109_1
            replace hx109_2 := (HB.out.cell (World.block_lt_of_cell? w _ hx109_2)).trans hx109_2
            replace p109 := eq_true p109
            replace q109 := eq_true q109
            go_wp2_with (first | ((with_reducible refine gate_callee (f := 20) rfl ?_); refine goesL_ (some 66) rfl rfl Tryd.func20 (by kernel_rfl) rfl #[.agg #[.int .i64 ((rd_T23 l4 x18_3).f0), .int .i64 ((rd_T23 l4 x18_3).f1), .int .i64 ((rd_T23 l4 x18_3).f2)]] rfl SQ ?_; (with_reducible refine (payoffref02_Day.calls k3 ((rd_T23 l4 x18_3).f0) ((rd_T23 l4 x18_3).f1) ((rd_T23 l4 x18_3).f2) t110 t111 _ A32.out).mono ?_); rintro e w37 ⟨rfl, hb⟩; refine ⟨_, rfl, ?_⟩; have n0_ := Aside0.mk (Kd.R_below (by (with_reducible repeat (first | apply kA | apply kN | apply kD)); exact HO_17.out) hb); have n1_ := Aside0.mk (blk_below (g := gb101) (o := .cells #[.int .i64 a0_0, .int .i64 a0_1, .int .i64 a0_2] 23 (0, 0)) ZQ hb); have n2_ := Aside0.mk (blk_below (g := gb102) (o := .cells #[.int .i64 a1_0, .int .i64 a1_1, .int .i64 a1_2] 23 (0, 0)) ZQ hb); have n3_ := Aside0.mk (blk_below (g := gb103) (o := .cells #[.int .i64 a2_0, .int .i64 a2_1] 41 (0, 0)) ZQ hb); have n4_ := Aside0.mk (below_step (BQ) hb); clear HO_17; clear BK101; clear BK102; clear BK103; clear HB; have HO_17 := n0_; have BK101 := n1_; have BK102 := n2_; have BK103 := n3_; have HB := n4_; clear n0_ n1_ n2_ n3_ n4_; (try clear hb); (try clear hb2); (try clear hk); (try clear hi)))
            go_ret2
            exact ⟨_, by first | rfl | (simp [errW_none, errW_some] <;> rfl) | (simp [*, errW_none, errW_some] <;> rfl), by first | exact Kd.R_nil _ _ _ _ _ | exact Kd.N_nil _ _ _ _ _ | exact Kd.V_nil _ _ _ _ _ | exact Kd.Q_nil _ _ _ _ _ | exact Kd.S_nil _ _ _ _ _, BQ⟩
          ·rw [if_neg c31] at H
           exact absurd H (by simp)
         ·rw [if_neg c30] at H
          have c30b0 : decide (x18_3 < (l4.length : Int)) = false := decide_eq_false c30
          clear c30
          by_cases c38 : t105 > t107
          ·rw [if_pos c38] at H
           have c38b0 : decide (t107 < t105) = true := decide_eq_true c38
           clear c38
           simp only [Option.some.injEq, Prod.mk.injEq] at H
           obtain ⟨rfl, rfl⟩ := H
           go_wp2
           go_ret2
           exact ⟨_, by first | rfl | (simp [errW_none, errW_some] <;> rfl) | (simp [*, errW_none, errW_some] <;> rfl), by first | exact Kd.R_nil _ _ _ _ _ | exact Kd.N_nil _ _ _ _ _ | exact Kd.V_nil _ _ _ _ _ | exact Kd.Q_nil _ _ _ _ _ | exact Kd.S_nil _ _ _ _ _, BQ⟩
          ·rw [if_neg c38] at H
           have c38b0 : decide (t107 < t105) = false := decide_eq_false c38
           clear c38
           have H' := Aside0.mk H
           clear H
           go_wp2
           go_loopg [21, 22] k3 (fun kq v21 v22 w' => ∃ (x21_4 : List Int) (x22_4 : Int), v22 = .int .i64 x22_4 ∧ Aside0 (payoffref02_Schedule.l1 kq a3 t107 x17_3 x21_4 x22_4 a0_0 a0_1 a0_2 a2_0 a2_1 = some (r1, r2)) ∧ Aside0 (kq ≤ k3) ∧ Aside0 (Kd.R (Kd.int .i64) 3 w' w.heap.size (fun k_ => some k_ ≠ (v21 : Value).ownBlock) u17 x17_3) ∧ Aside0 (Kd.R (Kd.int .i64) 3 w' w.heap.size (fun k_ => some k_ ≠ (u17 : Value).ownBlock) v21 x21_4) ∧ Aside0 (w'.heap[gb101]? = some (.cells #[.int .i64 a0_0, .int .i64 a0_1, .int .i64 a0_2] 23 (0, 0))) ∧ Aside0 (w'.heap[gb102]? = some (.cells #[.int .i64 a1_0, .int .i64 a1_1, .int .i64 a1_2] 23 (0, 0))) ∧ Aside0 (w'.heap[gb103]? = some (.cells #[.int .i64 a2_0, .int .i64 a2_1] 41 (0, 0))) ∧ Aside0 (Below w.heap.size w w'))
           case atStart => exact ⟨(([] : List Int)), (0), (by first | rfl | (simp; done) | (simp [*]; done)), H', ⟨Nat.le_refl _⟩, ⟨by (with_reducible repeat (first | apply kA | apply kN | apply kD)); exact Kd.R_mono HO_17.out (fun _ hk => (by simp [Value.ownBlock]))⟩, ⟨by first | exact Kd.R_nil _ _ _ _ _ | exact Kd.N_nil _ _ _ _ _ | exact Kd.V_nil _ _ _ _ _ | exact Kd.Q_nil _ _ _ _ _ | exact Kd.S_nil _ _ _ _ _⟩, ⟨by (with_reducible repeat (first | refine blk_drewN ?_ _ | refine blk_drew ?_ | refine blk_alloc ?_ _)); exact BK101.out⟩, ⟨by (with_reducible repeat (first | refine blk_drewN ?_ _ | refine blk_drew ?_ | refine blk_alloc ?_ _)); exact BK102.out⟩, ⟨by (with_reducible repeat (first | refine blk_drewN ?_ _ | refine blk_drew ?_ | refine blk_alloc ?_ _)); exact BK103.out⟩, ⟨BQ⟩⟩
           case round =>
            clear H'
            try clear c1
            try clear p1
            try clear q1
            try clear hx1
            try clear c2
            try clear p2 p2
            try clear c3
            try clear c4
            try clear c5
            try clear p6
            try clear p10
            try clear q10
            try clear hx10
            try clear c11
            try clear c12
            try clear c15
            try clear c16
            try clear c16b0
            try clear c17
            try clear c20
            try clear c21
            try clear c22
            try clear c25
            try clear c28
            try clear c28b0
            try clear c28b1
            try clear c29
            try clear c30
            try clear c30b0
            try clear c31
            try clear c31b0
            try clear c33
            try clear c33b0
            try clear c33b1
            try clear c34
            try clear c37
            try clear c38
            try clear c38b0
            try clear hcz13_0 hcz13_1
            try clear hcz23_0 hcz23_1 hcz23_2
            try clear hcz26_0 hcz26_1 hcz26_2
            try clear hfz13_0 hfz13_1
            try clear hfz23_0 hfz23_1 hfz23_2
            try clear hfz26_0 hfz26_1 hfz26_2
            try clear hx109_0 hx109_1 hx109_2
            try clear p109
            try clear q109
            obtain ⟨x21_4, x22_4, rfl, HA, HK4, HO_17, HO_21, BK101, BK102, BK103, HB⟩ := hrel
            cases gk with
            | zero => exact absurd HA.out (by simp [payoffref02_Schedule.l1])
            | succ k4 =>
             have H := HA.out
             clear HA
             simp only [payoffref02_Schedule.l1] at H
             replace H := Option.bind_eq_some_iff.mp H
             obtain ⟨⟨t115, t116, t117, t118⟩, A390, H⟩ := H
             replace H : ((payoffref02_Day.f k4 t115 t116 t117).bind fun bt120 => (if t118 = 0 then (payoffref02_Schedule.j4 k4 a3 t107 x17_3 x21_4 x22_4 bt120.1 (decide (bt120.1 > t107)) a0_0 a0_1 a0_2 a2_0 a2_1) else (payoffref02_Schedule.j4 k4 a3 t107 x17_3 x21_4 x22_4 bt120.1 true a0_0 a0_1 a0_2 a2_0 a2_1))) = some (r1, r2) := H
             have A39 := Aside0.mk A390
             clear A390
             replace H := Option.bind_eq_some_iff.mp H
             obtain ⟨⟨t120, t121⟩, A400, H⟩ := H
             replace H : (if t118 = 0 then (payoffref02_Schedule.j4 k4 a3 t107 x17_3 x21_4 x22_4 t120 (decide (t120 > t107)) a0_0 a0_1 a0_2 a2_0 a2_1) else (payoffref02_Schedule.j4 k4 a3 t107 x17_3 x21_4 x22_4 t120 true a0_0 a0_1 a0_2 a2_0 a2_1)) = some (r1, r2) := H
             have A40 := Aside0.mk A400
             clear A400
             have HC41 := Aside0.mk H
             clear H
             have hnb42 := NB101_102.out
             have hnc42 := NB102_101.out
             have hnb43 := NB101_103.out
             have hnc43 := NB103_101.out
             have hcz44_0 : wr.cell? ⟨gb101, 0, none⟩ = some (.int .i64 a0_0) := (blk_cell BK101.out 0).trans rfl
             have hcz44_1 : wr.cell? ⟨gb101, 1, none⟩ = some (.int .i64 a0_1) := (blk_cell BK101.out 1).trans rfl
             have hcz44_2 : wr.cell? ⟨gb101, 2, none⟩ = some (.int .i64 a0_2) := (blk_cell BK101.out 2).trans rfl
             have hfz44_0 := blk_frozen BK101.out 0
             have hfz44_1 := blk_frozen BK101.out 1
             have hfz44_2 := blk_frozen BK101.out 2
             have hnb45 := NB103_102.out
             have hnc45 := NB102_103.out
             have hcz46_0 : wr.cell? ⟨gb103, 0, none⟩ = some (.int .i64 a2_0) := (blk_cell BK103.out 0).trans rfl
             have hcz46_1 : wr.cell? ⟨gb103, 1, none⟩ = some (.int .i64 a2_1) := (blk_cell BK103.out 1).trans rfl
             have hfz46_0 := blk_frozen BK103.out 0
             have hfz46_1 := blk_frozen BK103.out 1
             go_upto_region 23 with (first | ((with_reducible refine gate_callee (f := 29) rfl ?_); refine goesL_ (some 84) rfl rfl Tryd.func29 (by kernel_rfl) rfl #[.agg #[.int .i64 a0_0, .int .i64 a0_1, .int .i64 a0_2], .agg #[.int .i64 a2_0, .int .i64 a2_1], .int .i64 x22_4] rfl SQ ?_; (with_reducible refine (payoffref02_Add.calls k4 a0_0 a0_1 a0_2 a2_0 a2_1 x22_4 t115 t116 t117 t118 _ A39.out).mono ?_); rintro e w47 ⟨rfl, hb⟩; refine ⟨_, rfl, ?_⟩; have n0_ := Aside0.mk (Kd.R_below (by (with_reducible repeat (first | apply kA | apply kN | apply kD)); exact HO_17.out) hb); have n1_ := Aside0.mk (Kd.R_below (by (with_reducible repeat (first | apply kA | apply kN | apply kD)); exact HO_21.out) hb); have n2_ := Aside0.mk (blk_below (g := gb101) (o := .cells #[.int .i64 a0_0, .int .i64 a0_1, .int .i64 a0_2] 23 (0, 0)) ZQ hb); have n3_ := Aside0.mk (blk_below (g := gb102) (o := .cells #[.int .i64 a1_0, .int .i64 a1_1, .int .i64 a1_2] 23 (0, 0)) ZQ hb); have n4_ := Aside0.mk (blk_below (g := gb103) (o := .cells #[.int .i64 a2_0, .int .i64 a2_1] 41 (0, 0)) ZQ hb); have n5_ := Aside0.mk (below_step (BQ) hb); clear HO_17; clear HO_21; clear BK101; clear BK102; clear BK103; clear HB; have HO_17 := n0_; have HO_21 := n1_; have BK101 := n2_; have BK102 := n3_; have BK103 := n4_; have HB := n5_; clear n0_ n1_ n2_ n3_ n4_ n5_; (try clear hb); (try clear hb2); (try clear hk); (try clear hi)) | ((with_reducible refine gate_dst (N := 23) rfl ?_); (try (refine gate_guard (by rfl) ?_; dsimp only)); refine box_event ?hg (N := 23) ?hd (cs := #[.int .i64 0, .int .i64 0, .int .i64 0]) (t := 23) ?hr ?_; (case hd => rfl); (case hg => rfl); (case hr => first | (go_simp; done) | (go_simp; rfl)); intro gb119 hg w48 hbox hb; have n0_ := Aside0.mk (Kd.R_below (by (with_reducible repeat (first | apply kA | apply kN | apply kD)); exact HO_17.out) hb); have n1_ := Aside0.mk (Kd.R_below (by (with_reducible repeat (first | apply kA | apply kN | apply kD)); exact HO_21.out) hb); have n2_ := Aside0.mk (blk_below (g := gb101) (o := .cells #[.int .i64 a0_0, .int .i64 a0_1, .int .i64 a0_2] 23 (0, 0)) ZQ hb); have n3_ := Aside0.mk (blk_below (g := gb102) (o := .cells #[.int .i64 a1_0, .int .i64 a1_1, .int .i64 a1_2] 23 (0, 0)) ZQ hb); have n4_ := Aside0.mk (blk_below (g := gb103) (o := .cells #[.int .i64 a2_0, .int .i64 a2_1] 41 (0, 0)) ZQ hb); have n5_ := Aside0.mk (below_step (BQ) hb); have n6_ := Aside0.mk (hbox); have n7_ := Aside0.mk ((by rw [hg]; exact (below_size (BQ)) : w.heap.size ≤ gb119)); have n8_ := Aside0.mk ((by rw [hg]; exact (below_size (BQ)) : w.heap.size ≤ gb119)); have n9_ := Aside0.mk ((by rw [hg]; exact Nat.ne_of_lt (blk_lt (g := gb101) (o := .cells #[.int .i64 a0_0, .int .i64 a0_1, .int .i64 a0_2] 23 (0, 0)) ZQ) : gb101 ≠ gb119)); have n10_ := Aside0.mk ((by rw [hg]; exact Nat.ne_of_gt (blk_lt (g := gb101) (o := .cells #[.int .i64 a0_0, .int .i64 a0_1, .int .i64 a0_2] 23 (0, 0)) ZQ) : gb119 ≠ gb101)); have n11_ := Aside0.mk ((by rw [hg]; exact Nat.ne_of_lt (blk_lt (g := gb102) (o := .cells #[.int .i64 a1_0, .int .i64 a1_1, .int .i64 a1_2] 23 (0, 0)) ZQ) : gb102 ≠ gb119)); have n12_ := Aside0.mk ((by rw [hg]; exact Nat.ne_of_gt (blk_lt (g := gb102) (o := .cells #[.int .i64 a1_0, .int .i64 a1_1, .int .i64 a1_2] 23 (0, 0)) ZQ) : gb119 ≠ gb102)); have n13_ := Aside0.mk ((by rw [hg]; exact Nat.ne_of_lt (blk_lt (g := gb103) (o := .cells #[.int .i64 a2_0, .int .i64 a2_1] 41 (0, 0)) ZQ) : gb103 ≠ gb119)); have n14_ := Aside0.mk ((by rw [hg]; exact Nat.ne_of_gt (blk_lt (g := gb103) (o := .cells #[.int .i64 a2_0, .int .i64 a2_1] 41 (0, 0)) ZQ) : gb119 ≠ gb103)); clear HO_17; clear HO_21; clear BK101; clear BK102; clear BK103; clear HB; have HO_17 := n0_; have HO_21 := n1_; have BK101 := n2_; have BK102 := n3_; have BK103 := n4_; have HB := n5_; have BK119 := n6_; have GW119 := n7_; have GE119 := n8_; have NB101_119 := n9_; have NB119_101 := n10_; have NB102_119 := n11_; have NB119_102 := n12_; have NB103_119 := n13_; have NB119_103 := n14_; clear n0_ n1_ n2_ n3_ n4_ n5_ n6_ n7_ n8_ n9_ n10_ n11_ n12_ n13_ n14_; clear hb hbox hg; have hnb49 := NB119_101.out; have hnc49 := NB101_119.out; have hnb50 := NB119_102.out; have hnc50 := NB102_119.out; have hnb51 := NB119_103.out; have hnc51 := NB103_119.out; have hcz52_0 : w48.cell? ⟨gb119, 0, none⟩ = some (.int .i64 0) := (blk_cell BK119.out 0).trans rfl; have hcz52_1 : w48.cell? ⟨gb119, 1, none⟩ = some (.int .i64 0) := (blk_cell BK119.out 1).trans rfl; have hcz52_2 : w48.cell? ⟨gb119, 2, none⟩ = some (.int .i64 0) := (blk_cell BK119.out 2).trans rfl; have hfz52_0 := blk_frozen BK119.out 0; have hfz52_1 := blk_frozen BK119.out 1; have hfz52_2 := blk_frozen BK119.out 2) | ((with_reducible refine gate_callee (f := 20) rfl ?_); refine goesL_ (some 89) rfl rfl Tryd.func20 (by kernel_rfl) rfl #[.agg #[.int .i64 t115, .int .i64 t116, .int .i64 t117]] rfl SQ ?_; (with_reducible refine (payoffref02_Day.calls k4 t115 t116 t117 t120 t121 _ A40.out).mono ?_); rintro e w53 ⟨rfl, hb⟩; refine ⟨_, rfl, ?_⟩; have n0_ := Aside0.mk (Kd.R_below (by (with_reducible repeat (first | apply kA | apply kN | apply kD)); exact (Kd.R_mono (Kd.R_far (p := ⟨gb119, 2, none⟩) (Kd.R_far (p := ⟨gb119, 1, none⟩) (Kd.R_far (p := ⟨gb119, 0, none⟩) (Kd.R_types HO_17.out BK119.out (by decide)) (fun _ hk => hk.2) (.int .i64 t115)) (fun _ hk => hk.2) (.int .i64 t116)) (fun _ hk => hk.2) (.int .i64 t117)) (fun _ h_ => h_.1))) hb); have n1_ := Aside0.mk (Kd.R_below (by (with_reducible repeat (first | apply kA | apply kN | apply kD)); exact (Kd.R_mono (Kd.R_far (p := ⟨gb119, 2, none⟩) (Kd.R_far (p := ⟨gb119, 1, none⟩) (Kd.R_far (p := ⟨gb119, 0, none⟩) (Kd.R_types HO_21.out BK119.out (by decide)) (fun _ hk => hk.2) (.int .i64 t115)) (fun _ hk => hk.2) (.int .i64 t116)) (fun _ hk => hk.2) (.int .i64 t117)) (fun _ h_ => h_.1))) hb); have n2_ := Aside0.mk (blk_below (g := gb101) (o := .cells #[.int .i64 a0_0, .int .i64 a0_1, .int .i64 a0_2] 23 (0, 0)) (by (with_reducible repeat (first | refine blk_drewN ?_ _ | refine blk_drew ?_ | refine blk_alloc ?_ _)); refine blk_far ?_ NB101_119.out _; (with_reducible repeat (first | refine blk_drewN ?_ _ | refine blk_drew ?_ | refine blk_alloc ?_ _)); refine blk_far ?_ NB101_119.out _; (with_reducible repeat (first | refine blk_drewN ?_ _ | refine blk_drew ?_ | refine blk_alloc ?_ _)); refine blk_far ?_ NB101_119.out _; (with_reducible repeat (first | refine blk_drewN ?_ _ | refine blk_drew ?_ | refine blk_alloc ?_ _)); exact BK101.out) hb); have n3_ := Aside0.mk (blk_below (g := gb102) (o := .cells #[.int .i64 a1_0, .int .i64 a1_1, .int .i64 a1_2] 23 (0, 0)) (by (with_reducible repeat (first | refine blk_drewN ?_ _ | refine blk_drew ?_ | refine blk_alloc ?_ _)); refine blk_far ?_ NB102_119.out _; (with_reducible repeat (first | refine blk_drewN ?_ _ | refine blk_drew ?_ | refine blk_alloc ?_ _)); refine blk_far ?_ NB102_119.out _; (with_reducible repeat (first | refine blk_drewN ?_ _ | refine blk_drew ?_ | refine blk_alloc ?_ _)); refine blk_far ?_ NB102_119.out _; (with_reducible repeat (first | refine blk_drewN ?_ _ | refine blk_drew ?_ | refine blk_alloc ?_ _)); exact BK102.out) hb); have n4_ := Aside0.mk (blk_below (g := gb103) (o := .cells #[.int .i64 a2_0, .int .i64 a2_1] 41 (0, 0)) (by (with_reducible repeat (first | refine blk_drewN ?_ _ | refine blk_drew ?_ | refine blk_alloc ?_ _)); refine blk_far ?_ NB103_119.out _; (with_reducible repeat (first | refine blk_drewN ?_ _ | refine blk_drew ?_ | refine blk_alloc ?_ _)); refine blk_far ?_ NB103_119.out _; (with_reducible repeat (first | refine blk_drewN ?_ _ | refine blk_drew ?_ | refine blk_alloc ?_ _)); refine blk_far ?_ NB103_119.out _; (with_reducible repeat (first | refine blk_drewN ?_ _ | refine blk_drew ?_ | refine blk_alloc ?_ _)); exact BK103.out) hb); have n5_ := Aside0.mk (blk_below (g := gb119) (o := .cells #[.int .i64 t115, .int .i64 t116, .int .i64 t117] 23 (0, 0)) (by (with_reducible repeat (first | refine blk_drewN ?_ _ | refine blk_drew ?_ | refine blk_alloc ?_ _)); refine blk_put (cs := #[.int .i64 t115, .int .i64 t116, .int .i64 0]) ?_ 2 _ rfl; (with_reducible repeat (first | refine blk_drewN ?_ _ | refine blk_drew ?_ | refine blk_alloc ?_ _)); refine blk_put (cs := #[.int .i64 t115, .int .i64 0, .int .i64 0]) ?_ 1 _ rfl; (with_reducible repeat (first | refine blk_drewN ?_ _ | refine blk_drew ?_ | refine blk_alloc ?_ _)); refine blk_put (cs := #[.int .i64 0, .int .i64 0, .int .i64 0]) ?_ 0 _ rfl; (with_reducible repeat (first | refine blk_drewN ?_ _ | refine blk_drew ?_ | refine blk_alloc ?_ _)); exact BK119.out) hb); have n6_ := Aside0.mk (below_step (BQ) hb); clear HO_17; clear HO_21; clear BK101; clear BK102; clear BK103; clear BK119; clear HB; have HO_17 := n0_; have HO_21 := n1_; have BK101 := n2_; have BK102 := n3_; have BK103 := n4_; have BK119 := n5_; have HB := n6_; clear n0_ n1_ n2_ n3_ n4_ n5_ n6_; (try clear hb); (try clear hb2); (try clear hk); (try clear hi)))
             (try simp only [Act.put, List.setIfInBounds_toArray, List.set_cons_zero, List.set_cons_succ])
             go_cut [98] (fun v98 wc => ∃ (kq : Nat) (x98_40 : Bool), v98 = .bool x98_40 ∧ Aside0 (payoffref02_Schedule.j4 kq a3 t107 x17_3 x21_4 x22_4 t120 x98_40 a0_0 a0_1 a0_2 a2_0 a2_1 = some (r1, r2)) ∧ Aside0 (kq ≤ k4) ∧ Aside0 (Kd.R (Kd.int .i64) 3 wc w.heap.size (fun k_ => some k_ ≠ (u21 : Value).ownBlock) u17 x17_3) ∧ Aside0 (Kd.R (Kd.int .i64) 3 wc w.heap.size (fun k_ => some k_ ≠ (u17 : Value).ownBlock) u21 x21_4) ∧ Aside0 (wc.heap[gb101]? = some (.cells #[.int .i64 a0_0, .int .i64 a0_1, .int .i64 a0_2] 23 (0, 0))) ∧ Aside0 (wc.heap[gb102]? = some (.cells #[.int .i64 a1_0, .int .i64 a1_1, .int .i64 a1_2] 23 (0, 0))) ∧ Aside0 (wc.heap[gb103]? = some (.cells #[.int .i64 a2_0, .int .i64 a2_1] 41 (0, 0))) ∧ Aside0 (wc.heap[gb119]? = some (.cells #[.int .i64 t115, .int .i64 t116, .int .i64 t117] 23 (0, 0))) ∧ Aside0 (Below w.heap.size w wc))
             case first =>
              have H := HC41.out
              clear HC41
              by_cases c54 : t118 = 0
              ·rw [if_pos c54] at H
               have c54b0 : (t118 == 0) = true := beq_iff_eq.mpr c54
               have c54b1 : (t118 != 0) = false := bne_eq_false_iff_eq.mpr c54
               clear c54
               (first | rw [c54b0] | (simp only [i64_w, i32_w]; rw [c54b0]) | skip)
               have H' := Aside0.mk H
               clear H
               go_wp2
               go_meet
               case rel => exact ⟨_, (decide (t120 > t107)), (by first | rfl | (simp; done) | (simp [*]; done)), H', ⟨by have := HJ6.out; have := HJ19.out; have := HK3.out; have := HK4.out; first | omega | exact Nat.le_refl _⟩, ⟨by (with_reducible repeat (first | apply kA | apply kN | apply kD)); exact HO_17.out⟩, ⟨by (with_reducible repeat (first | apply kA | apply kN | apply kD)); exact HO_21.out⟩, ⟨by (with_reducible repeat (first | refine blk_drewN ?_ _ | refine blk_drew ?_ | refine blk_alloc ?_ _)); exact BK101.out⟩, ⟨by (with_reducible repeat (first | refine blk_drewN ?_ _ | refine blk_drew ?_ | refine blk_alloc ?_ _)); exact BK102.out⟩, ⟨by (with_reducible repeat (first | refine blk_drewN ?_ _ | refine blk_drew ?_ | refine blk_alloc ?_ _)); exact BK103.out⟩, ⟨by (with_reducible repeat (first | refine blk_drewN ?_ _ | refine blk_drew ?_ | refine blk_alloc ?_ _)); exact BK119.out⟩, ⟨BQ⟩⟩
              ·rw [if_neg c54] at H
               have c54b0 : (t118 == 0) = false := beq_eq_false_iff_ne.mpr c54
               have c54b1 : (t118 != 0) = true := bne_iff_ne.mpr c54
               (first | rw [c54b0] | (simp only [i64_w, i32_w]; rw [c54b0]) | skip)
               have H' := Aside0.mk H
               clear H
               go_wp2
               go_meet
               case rel => exact ⟨_, (true), (by first | rfl | (simp; done) | (simp [*]; done)), H', ⟨by have := HJ6.out; have := HJ19.out; have := HK3.out; have := HK4.out; first | omega | exact Nat.le_refl _⟩, ⟨by (with_reducible repeat (first | apply kA | apply kN | apply kD)); exact HO_17.out⟩, ⟨by (with_reducible repeat (first | apply kA | apply kN | apply kD)); exact HO_21.out⟩, ⟨by (with_reducible repeat (first | refine blk_drewN ?_ _ | refine blk_drew ?_ | refine blk_alloc ?_ _)); exact BK101.out⟩, ⟨by (with_reducible repeat (first | refine blk_drewN ?_ _ | refine blk_drew ?_ | refine blk_alloc ?_ _)); exact BK102.out⟩, ⟨by (with_reducible repeat (first | refine blk_drewN ?_ _ | refine blk_drew ?_ | refine blk_alloc ?_ _)); exact BK103.out⟩, ⟨by (with_reducible repeat (first | refine blk_drewN ?_ _ | refine blk_drew ?_ | refine blk_alloc ?_ _)); exact BK119.out⟩, ⟨BQ⟩⟩
             case rest =>
              clear HC41
              try clear c1
              try clear p1 p1
              try clear q1 q1
              try clear hx1
              try clear c2
              try clear p2 p2
              try clear c3
              try clear c4
              try clear c5
              try clear p6 p6
              try clear p10 p10
              try clear q10 q10
              try clear hx10
              try clear c11
              try clear c12
              try clear c15
              try clear c16
              try clear c16b0
              try clear c17
              try clear c20
              try clear c21
              try clear c22
              try clear c25
              try clear c28
              try clear c28b0
              try clear c28b1
              try clear c29
              try clear c30
              try clear c30b0
              try clear c31
              try clear c31b0
              try clear c33
              try clear c33b0
              try clear c33b1
              try clear c34
              try clear c37
              try clear c38
              try clear c38b0
              try clear c42
              try clear c43
              try clear c45
              try clear c49
              try clear c50
              try clear c51
              try clear c54
              try clear c54b0
              try clear c54b1
              try clear hcz13_0 hcz13_1
              try clear hcz23_0 hcz23_1 hcz23_2
              try clear hcz26_0 hcz26_1 hcz26_2
              try clear hcz44_0 hcz44_1 hcz44_2
              try clear hcz46_0 hcz46_1
              try clear hcz52_0 hcz52_1 hcz52_2
              try clear hfz13_0 hfz13_1
              try clear hfz23_0 hfz23_1 hfz23_2
              try clear hfz26_0 hfz26_1 hfz26_2
              try clear hfz44_0 hfz44_1 hfz44_2
              try clear hfz46_0 hfz46_1
              try clear hfz52_0 hfz52_1 hfz52_2
              try clear hx109_0 hx109_1 hx109_2
              try clear p109
              try clear q109
              obtain ⟨kq, x98_40, rfl, HA, HJ40, HO_17, HO_21, BK101, BK102, BK103, BK119, HB⟩ := hcut
              cases kq with
              | zero => exact absurd HA.out (by simp [payoffref02_Schedule.j4])
              | succ kj40 =>
               have H := HA.out
               clear HA
               simp only [payoffref02_Schedule.j4] at H
               by_cases c55 : x98_40 = true
               ·subst c55
                have H1 : (some (x21_4, 0)) = some (r1, r2) := by rw [if_pos rfl] at H; exact H
                clear H
                have H := H1
                clear H1
                simp only [Option.some.injEq, Prod.mk.injEq] at H
                obtain ⟨rfl, rfl⟩ := H
                go_wp2
                go_ret2
                exact ⟨_, by first | rfl | (simp [errW_none, errW_some] <;> rfl) | (simp [*, errW_none, errW_some] <;> rfl), by (with_reducible repeat (first | apply kA | apply kN | apply kD)); exact Kd.R_mono HO_21.out (fun _ hk => trivial), BQ⟩
               ·replace c55 := Bool.eq_false_iff.mpr c55
                subst c55
                have H1 : ((payoffref02_Adjust.f kj40 t120 a3 x17_3).bind fun bt122 => (if bt122.2 = 0 then (if (x21_4.length : Int) = 0 then (if x21_4.length < 17592186044416 then (payoffref02_Schedule.l1 kj40 a3 t107 x17_3 (x21_4 ++ [bt122.1]) (wrap64 (x22_4 + 1)) a0_0 a0_1 a0_2 a2_0 a2_1) else (none)) else (if 0 ≤ (wrap64 ((x21_4.length : Int) - 1)) then (if (wrap64 ((x21_4.length : Int) - 1)) < (x21_4.length : Int) then (if (rd x21_4 (wrap64 ((x21_4.length : Int) - 1))) = bt122.1 then (payoffref02_Schedule.l1 kj40 a3 t107 x17_3 x21_4 (wrap64 (x22_4 + 1)) a0_0 a0_1 a0_2 a2_0 a2_1) else (if x21_4.length < 17592186044416 then (payoffref02_Schedule.l1 kj40 a3 t107 x17_3 (x21_4 ++ [bt122.1]) (wrap64 (x22_4 + 1)) a0_0 a0_1 a0_2 a2_0 a2_1) else (none))) else (none)) else (none))) else (some (([] : List Int), 2)))) = some (r1, r2) := by rw [if_neg (show ¬ (false = true) by decide)] at H; exact H
                clear H
                have H := H1
                clear H1
                replace H := Option.bind_eq_some_iff.mp H
                obtain ⟨⟨t122, t123⟩, A560, H⟩ := H
                replace H : (if t123 = 0 then (if (x21_4.length : Int) = 0 then (if x21_4.length < 17592186044416 then (payoffref02_Schedule.l1 kj40 a3 t107 x17_3 (x21_4 ++ [t122]) (wrap64 (x22_4 + 1)) a0_0 a0_1 a0_2 a2_0 a2_1) else (none)) else (if 0 ≤ (wrap64 ((x21_4.length : Int) - 1)) then (if (wrap64 ((x21_4.length : Int) - 1)) < (x21_4.length : Int) then (if (rd x21_4 (wrap64 ((x21_4.length : Int) - 1))) = t122 then (payoffref02_Schedule.l1 kj40 a3 t107 x17_3 x21_4 (wrap64 (x22_4 + 1)) a0_0 a0_1 a0_2 a2_0 a2_1) else (if x21_4.length < 17592186044416 then (payoffref02_Schedule.l1 kj40 a3 t107 x17_3 (x21_4 ++ [t122]) (wrap64 (x22_4 + 1)) a0_0 a0_1 a0_2 a2_0 a2_1) else (none))) else (none)) else (none))) else (some (([] : List Int), 2))) = some (r1, r2) := H
                have A56 := Aside0.mk A560
                clear A560
                by_cases c57 : t123 = 0
                ·rw [if_pos c57] at H
                 have c57b0 : (t123 == 0) = true := beq_iff_eq.mpr c57
                 have c57b1 : (t123 != 0) = false := bne_eq_false_iff_eq.mpr c57
                 clear c57
                 by_cases c58 : (x21_4.length : Int) = 0
                 ·rw [if_pos c58] at H
                  have c58b0 : ((x21_4.length : Int) == 0) = true := beq_iff_eq.mpr c58
                  have c58b1 : ((x21_4.length : Int) != 0) = false := bne_eq_false_iff_eq.mpr c58
                  clear c58
                  by_cases c59 : x21_4.length < 17592186044416
                  ·rw [if_pos c59] at H
                   have LMc59 := Aside0.mk c59
                   clear c59
                   obtain ⟨y124, hy124⟩ : ∃ y_ : List Int, y_ = (x21_4 ++ [t122]) := ⟨_, rfl⟩
                   replace H : (payoffref02_Schedule.l1 kj40 a3 t107 x17_3 y124 (wrap64 (x22_4 + 1)) a0_0 a0_1 a0_2 a2_0 a2_1) = some (r1, r2) := by first | (rw [hy124]; with_reducible exact H) | (have H2_ := (Option.bind_some _ _).symm.trans H; rw [hy124]; with_reducible exact H2_) | (have H2_ := (Option.bind_some _ _).symm.trans H; with_reducible exact H2_) | with_reducible exact H | (rw [hy124]; exact H) | exact H
                   have Ny124 := Aside0.mk hy124
                   clear hy124
                   have H' := Aside0.mk H
                   clear H
                   obtain ⟨Ao60, co60, eo60⟩ := Kd.R_slice HO_17.out
                   subst eo60
                   go_wp2_with (first | ((with_reducible refine gate_callee (f := 33) rfl ?_); refine goesL_ (some 104) rfl rfl Tryd.func33 (by kernel_rfl) rfl #[.int .i64 t120, .int .i64 a3, .slice Ao60 x17_3.length co60] rfl SQ ?_; (with_reducible refine (payoffref02_Adjust.calls kj40 t120 a3 _ _ x17_3 t122 t123 _ ?side1 ?side2 A56.out).mono ?_); (case side1 => repeat (first | exact (Kd.R_reads' HO_17.out).2.2 | (with_reducible refine Kd.C_alloc ?_ _) | (with_reducible refine Kd.C_drewN ?_ _) | (with_reducible refine Kd.C_drew ?_))); (case side2 => exact (Kd.R_reads' HO_17.out).2.1); rintro e w61 ⟨rfl, hb⟩; refine ⟨_, rfl, ?_⟩; have n0_ := Aside0.mk (Kd.R_below (by (with_reducible repeat (first | apply kA | apply kN | apply kD)); exact HO_17.out) hb); have n1_ := Aside0.mk (Kd.R_below (by (with_reducible repeat (first | apply kA | apply kN | apply kD)); exact HO_21.out) hb); have n2_ := Aside0.mk (blk_below (g := gb101) (o := .cells #[.int .i64 a0_0, .int .i64 a0_1, .int .i64 a0_2] 23 (0, 0)) ZQ hb); have n3_ := Aside0.mk (blk_below (g := gb102) (o := .cells #[.int .i64 a1_0, .int .i64 a1_1, .int .i64 a1_2] 23 (0, 0)) ZQ hb); have n4_ := Aside0.mk (blk_below (g := gb103) (o := .cells #[.int .i64 a2_0, .int .i64 a2_1] 41 (0, 0)) ZQ hb); have n5_ := Aside0.mk (blk_below (g := gb119) (o := .cells #[.int .i64 t115, .int .i64 t116, .int .i64 t117] 23 (0, 0)) ZQ hb); have n6_ := Aside0.mk (below_step (BQ) hb); clear HO_17; clear HO_21; clear BK101; clear BK102; clear BK103; clear BK119; clear HB; have HO_17 := n0_; have HO_21 := n1_; have BK101 := n2_; have BK102 := n3_; have BK103 := n4_; have BK119 := n5_; have HB := n6_; clear n0_ n1_ n2_ n3_ n4_ n5_ n6_; (try clear hb); (try clear hb2); (try clear hk); (try clear hi); obtain ⟨Ao62, co62, eo62⟩ := Kd.R_slice HO_21.out; subst eo62) | ((with_reducible refine gate_builtin (b := .append) (xs := #[.tmp 122, .tmp 124]) rfl ?_); (try (refine gate_guard (by rfl) ?_; dsimp only)); at_builtin; refine Kd.R_append (Kd.int .i64) (w0 := w) w.heap.size rfl (.tmp 122) (.tmp 124) 45 3 (.int .i64 0) 8 rfl Tryd.underlying45 info3 rfl (by decide) (by omega) (.slice Ao62 x21_4.length co62) x21_4 t122 [.int .i64 t122] (fun k_ => some k_ ≠ (.slice Ao60 x17_3.length co60 : Value).ownBlock) (fun _ => False) rfl rfl ?aP (fun _ hk => hk.elim) ?aF ?aO ?aB ?aS ?aL ?_; (case aP => exact rfl); (case aB => exact (BQ)); (case aF => exact (fun k_ hk => Kd.fresh' (Kd.R_lt (by (with_reducible repeat (first | apply kA | apply kN | apply kD)); exact HO_17.out)) k_ hk)); (case aO => exact (by (with_reducible repeat (first | apply kA | apply kN | apply kD)); exact HO_21.out)); (case aS => exact (below_size (BQ))); (case aL => have := LMc59.out; omega); intro v125 w63 ho hb hg hat; rw [← Ny124.out] at ho; have n0_ := Aside0.mk (Kd.R_after (ok := (fun _ => True)) (by (with_reducible repeat (first | apply kA | apply kN | apply kD)); exact Kd.R_mono HO_17.out (fun _ hk => ⟨trivial, hk⟩)) hg hat); have n1_ := Aside0.mk (blk_grown (g := gb101) (o := .cells #[.int .i64 a0_0, .int .i64 a0_1, .int .i64 a0_2] 23 (0, 0)) ZQ hg (Kd.R_ne HO_21.out BK101.out (by decide))); have n2_ := Aside0.mk (blk_grown (g := gb102) (o := .cells #[.int .i64 a1_0, .int .i64 a1_1, .int .i64 a1_2] 23 (0, 0)) ZQ hg (Kd.R_ne HO_21.out BK102.out (by decide))); have n3_ := Aside0.mk (blk_grown (g := gb103) (o := .cells #[.int .i64 a2_0, .int .i64 a2_1] 41 (0, 0)) ZQ hg (Kd.R_ne HO_21.out BK103.out (by decide))); have n4_ := Aside0.mk (blk_grown (g := gb119) (o := .cells #[.int .i64 t115, .int .i64 t116, .int .i64 t117] 23 (0, 0)) ZQ hg (Kd.R_ne HO_21.out BK119.out (by decide))); have n5_ := Aside0.mk (hb); have n6_ := Aside0.mk (ho); clear HO_17; clear BK101; clear BK102; clear BK103; clear BK119; clear HB; clear HO_21; have HO_17 := n0_; have BK101 := n1_; have BK102 := n2_; have BK103 := n3_; have BK119 := n4_; have HB := n5_; have HO126 := n6_; clear n0_ n1_ n2_ n3_ n4_ n5_ n6_; clear ho hb hg hat))
                   go_roundg kj40
                   case measure => have := HJ6.out; have := HJ19.out; have := HK3.out; have := HK4.out; have := HJ40.out; omega
                   case rel => exact ⟨(y124), (wrap64 (x22_4 + 1)), (by first | rfl | (simp; done) | (simp [*]; done)), H', ⟨by have := HJ6.out; have := HJ19.out; have := HK3.out; have := HK4.out; have := HJ40.out; omega⟩, ⟨by (with_reducible repeat (first | apply kA | apply kN | apply kD)); exact Kd.R_mono HO_17.out (fun _ hk => hk.2)⟩, ⟨by (with_reducible repeat (first | apply kA | apply kN | apply kD)); exact HO126.out⟩, ⟨by (with_reducible repeat (first | refine blk_drewN ?_ _ | refine blk_drew ?_ | refine blk_alloc ?_ _)); exact BK101.out⟩, ⟨by (with_reducible repeat (first | refine blk_drewN ?_ _ | refine blk_drew ?_ | refine blk_alloc ?_ _)); exact BK102.out⟩, ⟨by (with_reducible repeat (first | refine blk_drewN ?_ _ | refine blk_drew ?_ | refine blk_alloc ?_ _)); exact BK103.out⟩, ⟨BQ⟩⟩
                  ·rw [if_neg c59] at H
                   exact absurd H (by simp)
                 ·rw [if_neg c58] at H
                  have c58b0 : ((x21_4.length : Int) == 0) = false := beq_eq_false_iff_ne.mpr c58
                  have c58b1 : ((x21_4.length : Int) != 0) = true := bne_iff_ne.mpr c58
                  have c58b2 : ¬ (x21_4 = []) := fun h_ => c58 (by rw [h_]; rfl)
                  obtain ⟨ji64, hji64⟩ : ∃ j_ : Int, (wrap64 ((x21_4.length : Int) - 1)) = j_ := ⟨_, rfl⟩
                  replace H : (if 0 ≤ (ji64) then (if (ji64) < (x21_4.length : Int) then (if (rd x21_4 (ji64)) = t122 then (payoffref02_Schedule.l1 kj40 a3 t107 x17_3 x21_4 (wrap64 (x22_4 + 1)) a0_0 a0_1 a0_2 a2_0 a2_1) else (if x21_4.length < 17592186044416 then (payoffref02_Schedule.l1 kj40 a3 t107 x17_3 (x21_4 ++ [t122]) (wrap64 (x22_4 + 1)) a0_0 a0_1 a0_2 a2_0 a2_1) else (none))) else (none)) else (none)) = some (r1, r2) := by first | (rw [hji64] at H; exact H) | (simp only [hji64] at H ⊢; exact H)
                  (try rw [hji64] at A56)
                  have hji64w : (IntKind.i64.wrap ((x21_4.length : Int) - 1)) = ji64 := (i64_w _).trans hji64
                  by_cases c65 : 0 ≤ (ji64)
                  ·rw [if_pos c65] at H
                   have c65b0 : decide (0 ≤ (ji64)) = true := decide_eq_true c65
                   clear c65
                   by_cases c66 : (ji64) < (x21_4.length : Int)
                   ·rw [if_pos c66] at H
                    have c66b0 : decide ((ji64) < (x21_4.length : Int)) = true := decide_eq_true c66
                    clear c66
                    by_cases c67 : (rd x21_4 (ji64)) = t122
                    ·rw [if_pos c67] at H
                     have c67b0 : ((rd x21_4 (ji64)) == t122) = true := beq_iff_eq.mpr c67
                     have c67b1 : ((rd x21_4 (ji64)) != t122) = false := bne_eq_false_iff_eq.mpr c67
                     clear c67
                     have H' := Aside0.mk H
                     clear H
                     obtain ⟨Ao68, co68, eo68⟩ := Kd.R_slice HO_17.out
                     subst eo68
                     go_wp2_with (first | ((with_reducible refine gate_callee (f := 33) rfl ?_); refine goesL_ (some 104) rfl rfl Tryd.func33 (by kernel_rfl) rfl #[.int .i64 t120, .int .i64 a3, .slice Ao68 x17_3.length co68] rfl SQ ?_; (with_reducible refine (payoffref02_Adjust.calls kj40 t120 a3 _ _ x17_3 t122 t123 _ ?side1 ?side2 A56.out).mono ?_); (case side1 => repeat (first | exact (Kd.R_reads' HO_17.out).2.2 | (with_reducible refine Kd.C_alloc ?_ _) | (with_reducible refine Kd.C_drewN ?_ _) | (with_reducible refine Kd.C_drew ?_))); (case side2 => exact (Kd.R_reads' HO_17.out).2.1); rintro e w69 ⟨rfl, hb⟩; refine ⟨_, rfl, ?_⟩; have n0_ := Aside0.mk (Kd.R_below (by (with_reducible repeat (first | apply kA | apply kN | apply kD)); exact HO_17.out) hb); have n1_ := Aside0.mk (Kd.R_below (by (with_reducible repeat (first | apply kA | apply kN | apply kD)); exact HO_21.out) hb); have n2_ := Aside0.mk (blk_below (g := gb101) (o := .cells #[.int .i64 a0_0, .int .i64 a0_1, .int .i64 a0_2] 23 (0, 0)) ZQ hb); have n3_ := Aside0.mk (blk_below (g := gb102) (o := .cells #[.int .i64 a1_0, .int .i64 a1_1, .int .i64 a1_2] 23 (0, 0)) ZQ hb); have n4_ := Aside0.mk (blk_below (g := gb103) (o := .cells #[.int .i64 a2_0, .int .i64 a2_1] 41 (0, 0)) ZQ hb); have n5_ := Aside0.mk (blk_below (g := gb119) (o := .cells #[.int .i64 t115, .int .i64 t116, .int .i64 t117] 23 (0, 0)) ZQ hb); have n6_ := Aside0.mk (below_step (BQ) hb); clear HO_17; clear HO_21; clear BK101; clear BK102; clear BK103; clear BK119; clear HB; have HO_17 := n0_; have HO_21 := n1_; have BK101 := n2_; have BK102 := n3_; have BK103 := n4_; have BK119 := n5_; have HB := n6_; clear n0_ n1_ n2_ n3_ n4_ n5_ n6_; (try clear hb); (try clear hb2); (try clear hk); (try clear hi); obtain ⟨Ao70, co70, eo70⟩ := Kd.R_slice HO_21.out; subst eo70; have p127 : 0 ≤ ((ji64) : Int) := of_decide_eq_true (by first | (with_reducible assumption) | assumption); have q127 : (ji64) < (x21_4.length : Int) := of_decide_eq_true (by first | (with_reducible assumption) | assumption); obtain ⟨ad127, e127, hx127_0⟩ := Kd.at_int (Kd.R_reads' HO_21.out).2.2 (ji64) p127 q127; cases e127; replace p127 := eq_true p127; replace q127 := eq_true q127))
                     go_roundg kj40
                     case measure => have := HJ6.out; have := HJ19.out; have := HK3.out; have := HK4.out; have := HJ40.out; omega
                     case rel => exact ⟨(x21_4), (wrap64 (x22_4 + 1)), (by first | rfl | (simp; done) | (simp [*]; done)), H', ⟨by have := HJ6.out; have := HJ19.out; have := HK3.out; have := HK4.out; have := HJ40.out; omega⟩, ⟨by (with_reducible repeat (first | apply kA | apply kN | apply kD)); exact HO_17.out⟩, ⟨by (with_reducible repeat (first | apply kA | apply kN | apply kD)); exact HO_21.out⟩, ⟨by (with_reducible repeat (first | refine blk_drewN ?_ _ | refine blk_drew ?_ | refine blk_alloc ?_ _)); exact BK101.out⟩, ⟨by (with_reducible repeat (first | refine blk_drewN ?_ _ | refine blk_drew ?_ | refine blk_alloc ?_ _)); exact BK102.out⟩, ⟨by (with_reducible repeat (first | refine blk_drewN ?_ _ | refine blk_drew ?_ | refine blk_alloc ?_ _)); exact BK103.out⟩, ⟨BQ⟩⟩
                    ·rw [if_neg c67] at H
                     have c67b0 : ((rd x21_4 (ji64)) == t122) = false := beq_eq_false_iff_ne.mpr c67
                     have c67b1 : ((rd x21_4 (ji64)) != t122) = true := bne_iff_ne.mpr c67
                     by_cases c71 : x21_4.length < 17592186044416
                     ·rw [if_pos c71] at H
                      have LMc71 := Aside0.mk c71
                      clear c71
                      obtain ⟨y128, hy128⟩ : ∃ y_ : List Int, y_ = (x21_4 ++ [t122]) := ⟨_, rfl⟩
                      replace H : (payoffref02_Schedule.l1 kj40 a3 t107 x17_3 y128 (wrap64 (x22_4 + 1)) a0_0 a0_1 a0_2 a2_0 a2_1) = some (r1, r2) := by first | (rw [hy128]; with_reducible exact H) | (have H2_ := (Option.bind_some _ _).symm.trans H; rw [hy128]; with_reducible exact H2_) | (have H2_ := (Option.bind_some _ _).symm.trans H; with_reducible exact H2_) | with_reducible exact H | (rw [hy128]; exact H) | exact H
                      have Ny128 := Aside0.mk hy128
                      clear hy128
                      have H' := Aside0.mk H
                      clear H
                      obtain ⟨Ao72, co72, eo72⟩ := Kd.R_slice HO_17.out
                      subst eo72
                      go_wp2_with (first | ((with_reducible refine gate_callee (f := 33) rfl ?_); refine goesL_ (some 104) rfl rfl Tryd.func33 (by kernel_rfl) rfl #[.int .i64 t120, .int .i64 a3, .slice Ao72 x17_3.length co72] rfl SQ ?_; (with_reducible refine (payoffref02_Adjust.calls kj40 t120 a3 _ _ x17_3 t122 t123 _ ?side1 ?side2 A56.out).mono ?_); (case side1 => repeat (first | exact (Kd.R_reads' HO_17.out).2.2 | (with_reducible refine Kd.C_alloc ?_ _) | (with_reducible refine Kd.C_drewN ?_ _) | (with_reducible refine Kd.C_drew ?_))); (case side2 => exact (Kd.R_reads' HO_17.out).2.1); rintro e w73 ⟨rfl, hb⟩; refine ⟨_, rfl, ?_⟩; have n0_ := Aside0.mk (Kd.R_below (by (with_reducible repeat (first | apply kA | apply kN | apply kD)); exact HO_17.out) hb); have n1_ := Aside0.mk (Kd.R_below (by (with_reducible repeat (first | apply kA | apply kN | apply kD)); exact HO_21.out) hb); have n2_ := Aside0.mk (blk_below (g := gb101) (o := .cells #[.int .i64 a0_0, .int .i64 a0_1, .int .i64 a0_2] 23 (0, 0)) ZQ hb); have n3_ := Aside0.mk (blk_below (g := gb102) (o := .cells #[.int .i64 a1_0, .int .i64 a1_1, .int .i64 a1_2] 23 (0, 0)) ZQ hb); have n4_ := Aside0.mk (blk_below (g := gb103) (o := .cells #[.int .i64 a2_0, .int .i64 a2_1] 41 (0, 0)) ZQ hb); have n5_ := Aside0.mk (blk_below (g := gb119) (o := .cells #[.int .i64 t115, .int .i64 t116, .int .i64 t117] 23 (0, 0)) ZQ hb); have n6_ := Aside0.mk (below_step (BQ) hb); clear HO_17; clear HO_21; clear BK101; clear BK102; clear BK103; clear BK119; clear HB; have HO_17 := n0_; have HO_21 := n1_; have BK101 := n2_; have BK102 := n3_; have BK103 := n4_; have BK119 := n5_; have HB := n6_; clear n0_ n1_ n2_ n3_ n4_ n5_ n6_; (try clear hb); (try clear hb2); (try clear hk); (try clear hi); obtain ⟨Ao74, co74, eo74⟩ := Kd.R_slice HO_21.out; subst eo74; have p127 : 0 ≤ ((ji64) : Int) := of_decide_eq_true (by first | (with_reducible assumption) | assumption); have q127 : (ji64) < (x21_4.length : Int) := of_decide_eq_true (by first | (with_reducible assumption) | assumption); obtain ⟨ad127, e127, hx127_0⟩ := Kd.at_int (Kd.R_reads' HO_21.out).2.2 (ji64) p127 q127; cases e127; replace p127 := eq_true p127; replace q127 := eq_true q127) | ((with_reducible refine gate_builtin (b := .append) (xs := #[.tmp 122, .tmp 124]) rfl ?_); (try (refine gate_guard (by rfl) ?_; dsimp only)); at_builtin; refine Kd.R_append (Kd.int .i64) (w0 := w) w.heap.size rfl (.tmp 122) (.tmp 124) 45 3 (.int .i64 0) 8 rfl Tryd.underlying45 info3 rfl (by decide) (by omega) (.slice (some ad127) x21_4.length co74) x21_4 t122 [.int .i64 t122] (fun k_ => some k_ ≠ (.slice Ao72 x17_3.length co72 : Value).ownBlock) (fun _ => False) rfl rfl ?aP (fun _ hk => hk.elim) ?aF ?aO ?aB ?aS ?aL ?_; (case aP => exact rfl); (case aB => exact (BQ)); (case aF => exact (fun k_ hk => Kd.fresh' (Kd.R_lt (by (with_reducible repeat (first | apply kA | apply kN | apply kD)); exact HO_17.out)) k_ hk)); (case aO => exact (by (with_reducible repeat (first | apply kA | apply kN | apply kD)); exact HO_21.out)); (case aS => exact (below_size (BQ))); (case aL => have := LMc71.out; omega); intro v129 w75 ho hb hg hat; rw [← Ny128.out] at ho; have n0_ := Aside0.mk (Kd.R_after (ok := (fun _ => True)) (by (with_reducible repeat (first | apply kA | apply kN | apply kD)); exact Kd.R_mono HO_17.out (fun _ hk => ⟨trivial, hk⟩)) hg hat); have n1_ := Aside0.mk (blk_grown (g := gb101) (o := .cells #[.int .i64 a0_0, .int .i64 a0_1, .int .i64 a0_2] 23 (0, 0)) ZQ hg (Kd.R_ne HO_21.out BK101.out (by decide))); have n2_ := Aside0.mk (blk_grown (g := gb102) (o := .cells #[.int .i64 a1_0, .int .i64 a1_1, .int .i64 a1_2] 23 (0, 0)) ZQ hg (Kd.R_ne HO_21.out BK102.out (by decide))); have n3_ := Aside0.mk (blk_grown (g := gb103) (o := .cells #[.int .i64 a2_0, .int .i64 a2_1] 41 (0, 0)) ZQ hg (Kd.R_ne HO_21.out BK103.out (by decide))); have n4_ := Aside0.mk (blk_grown (g := gb119) (o := .cells #[.int .i64 t115, .int .i64 t116, .int .i64 t117] 23 (0, 0)) ZQ hg (Kd.R_ne HO_21.out BK119.out (by decide))); have n5_ := Aside0.mk (hb); have n6_ := Aside0.mk (ho); clear HO_17; clear BK101; clear BK102; clear BK103; clear BK119; clear HB; clear HO_21; have HO_17 := n0_; have BK101 := n1_; have BK102 := n2_; have BK103 := n3_; have BK119 := n4_; have HB := n5_; have HO130 := n6_; clear n0_ n1_ n2_ n3_ n4_ n5_ n6_; clear ho hb hg hat))
                      go_roundg kj40
                      case measure => have := HJ6.out; have := HJ19.out; have := HK3.out; have := HK4.out; have := HJ40.out; omega
                      case rel => exact ⟨(y128), (wrap64 (x22_4 + 1)), (by first | rfl | (simp; done) | (simp [*]; done)), H', ⟨by have := HJ6.out; have := HJ19.out; have := HK3.out; have := HK4.out; have := HJ40.out; omega⟩, ⟨by (with_reducible repeat (first | apply kA | apply kN | apply kD)); exact Kd.R_mono HO_17.out (fun _ hk => hk.2)⟩, ⟨by (with_reducible repeat (first | apply kA | apply kN | apply kD)); exact HO130.out⟩, ⟨by (with_reducible repeat (first | refine blk_drewN ?_ _ | refine blk_drew ?_ | refine blk_alloc ?_ _)); exact BK101.out⟩, ⟨by (with_reducible repeat (first | refine blk_drewN ?_ _ | refine blk_drew ?_ | refine blk_alloc ?_ _)); exact BK102.out⟩, ⟨by (with_reducible repeat (first | refine blk_drewN ?_ _ | refine blk_drew ?_ | refine blk_alloc ?_ _)); exact BK103.out⟩, ⟨BQ⟩⟩
                     ·rw [if_neg c71] at H
                      exact absurd H (by simp)
                   ·rw [if_neg c66] at H
                    exact absurd H (by simp)
                  ·rw [if_neg c65] at H
                   exact absurd H (by simp)
                ·rw [if_neg c57] at H
                 have c57b0 : (t123 == 0) = false := beq_eq_false_iff_ne.mpr c57
                 have c57b1 : (t123 != 0) = true := bne_iff_ne.mpr c57
                 simp only [Option.some.injEq, Prod.mk.injEq] at H
                 obtain ⟨rfl, rfl⟩ := H
                 obtain ⟨Ao76, co76, eo76⟩ := Kd.R_slice HO_17.out
                 subst eo76
                 go_wp2_with (first | ((with_reducible refine gate_callee (f := 33) rfl ?_); refine goesL_ (some 104) rfl rfl Tryd.func33 (by kernel_rfl) rfl #[.int .i64 t120, .int .i64 a3, .slice Ao76 x17_3.length co76] rfl SQ ?_; (with_reducible refine (payoffref02_Adjust.calls kj40 t120 a3 _ _ x17_3 t122 t123 _ ?side1 ?side2 A56.out).mono ?_); (case side1 => repeat (first | exact (Kd.R_reads' HO_17.out).2.2 | (with_reducible refine Kd.C_alloc ?_ _) | (with_reducible refine Kd.C_drewN ?_ _) | (with_reducible refine Kd.C_drew ?_))); (case side2 => exact (Kd.R_reads' HO_17.out).2.1); rintro e w77 ⟨rfl, hb⟩; refine ⟨_, rfl, ?_⟩; have n0_ := Aside0.mk (Kd.R_below (by (with_reducible repeat (first | apply kA | apply kN | apply kD)); exact HO_17.out) hb); have n1_ := Aside0.mk (Kd.R_below (by (with_reducible repeat (first | apply kA | apply kN | apply kD)); exact HO_21.out) hb); have n2_ := Aside0.mk (blk_below (g := gb101) (o := .cells #[.int .i64 a0_0, .int .i64 a0_1, .int .i64 a0_2] 23 (0, 0)) ZQ hb); have n3_ := Aside0.mk (blk_below (g := gb102) (o := .cells #[.int .i64 a1_0, .int .i64 a1_1, .int .i64 a1_2] 23 (0, 0)) ZQ hb); have n4_ := Aside0.mk (blk_below (g := gb103) (o := .cells #[.int .i64 a2_0, .int .i64 a2_1] 41 (0, 0)) ZQ hb); have n5_ := Aside0.mk (blk_below (g := gb119) (o := .cells #[.int .i64 t115, .int .i64 t116, .int .i64 t117] 23 (0, 0)) ZQ hb); have n6_ := Aside0.mk (below_step (BQ) hb); clear HO_17; clear HO_21; clear BK101; clear BK102; clear BK103; clear BK119; clear HB; have HO_17 := n0_; have HO_21 := n1_; have BK101 := n2_; have BK102 := n3_; have BK103 := n4_; have BK119 := n5_; have HB := n6_; clear n0_ n1_ n2_ n3_ n4_ n5_ n6_; (try clear hb); (try clear hb2); (try clear hk); (try clear hi)))
                 go_ret2
                 exact ⟨_, by first | rfl | (simp [errW_none, errW_some] <;> rfl) | (simp [*, errW_none, errW_some] <;> rfl), by first | exact Kd.R_nil _ _ _ _ _ | exact Kd.N_nil _ _ _ _ _ | exact Kd.V_nil _ _ _ _ _ | exact Kd.Q_nil _ _ _ _ _ | exact Kd.S_nil _ _ _ _ _, BQ⟩

end Go.Proofs.YtdebllinaffceaaDoor.M
