import Derived.Test.YtdebllinaffceaaDoorVWords
import Derived.Test.YtdebllinaffceaaDoorMx0
import Derived.Test.YtdebllinaffceaaDoorMCalLength
import Derived.Test.YtdebllinaffceaaDoorMCalDay
import Derived.Test.YtdebllinaffceaaDoorMCalValidTenor
import Derived.Test.YtdebllinaffceaaDoorMCalAdd
import Derived.Test.YtdebllinaffceaaDoorMCalAdjust
namespace Go.Proofs.YtdebllinaffceaaDoor.M
open Go.RowKit Go.Proofs.YtdebllinaffceaaDoorW.PrintWords Go.Proofs.YtdebllinaffceaaDoorW.PrintLast Go.Proofs.YtdebllinaffceaaDoorW.PrintMore
attribute [local go_sem] max2_int min2_int max_two min_two max_three min_three max_four min_four   -- for this text's walks alone
set_option linter.unusedVariables false
set_option linter.unusedSimpArgs false

/-! ### cal_Schedule: function 40 -/
mutual
def cal_Schedule.j0 : Nat → Int → List (S23) → Bool → Int → Int → Int → Int → Int → Int → Int → Int → Option (List Int × Int)
 | 0, _, _, _, _, _, _, _, _, _, _, _ => none
 | k + 1, x3, x4, x37, x102000, x102001, x102002, x103000, x103001, x103002, x104000, x104001 => if x37 = true then (some (([] : List Int), 1)) else ((cal_Day.f k x102000 x102001 x102002).bind fun bt105 => ((cal_Day.f k x103000 x103001 x103002).bind fun bt107 => (if bt105.2 = 0 then (cal_Schedule.j1 k x3 x4 bt105.1 bt107.1 (bt107.2 != 0) x102000 x102001 x102002 x104000 x104001) else (cal_Schedule.j1 k x3 x4 bt105.1 bt107.1 true x102000 x102001 x102002 x104000 x104001))))
def cal_Schedule.j1 : Nat → Int → List (S23) → Int → Int → Bool → Int → Int → Int → Int → Int → Option (List Int × Int)
 | 0, _, _, _, _, _, _, _, _, _, _ => none
 | k + 1, x3, x4, x12, x14, x53, x102000, x102001, x102002, x104000, x104001 => if x53 = true then (some (([] : List Int), 21)) else (cal_Schedule.l0 k x3 x12 x14 ([] : List Int) x4 (x4.length : Int) 0 x102000 x102001 x102002 x104000 x104001)
def cal_Schedule.l0 : Nat → Int → Int → Int → List Int → List (S23) → Int → Int → Int → Int → Int → Int → Int → Option (List Int × Int)
 | 0, _, _, _, _, _, _, _, _, _, _, _, _ => none
 | k + 1, x3, x12, x14, x16, x54, x55, x56, x102000, x102001, x102002, x104000, x104001 => if x56 < x55 then (if 0 ≤ x56 then (if x56 < (x54.length : Int) then ((cal_Day.f k ((rd_T23 x54 x56).f0) ((rd_T23 x54 x56).f1) ((rd_T23 x54 x56).f2)).bind fun bt111 => (if bt111.2 = 0 then (if x16.length < 17592186044416 then (cal_Schedule.l0 k x3 x12 x14 (x16 ++ [bt111.1]) x54 x55 (wrap64 (x56 + 1)) x102000 x102001 x102002 x104000 x104001) else (none)) else (some (([] : List Int), bt111.2)))) else (none)) else (none)) else (if x12 > x14 then (some (([] : List Int), 2)) else (cal_Schedule.l1 k x3 x14 x16 ([] : List Int) 0 x102000 x102001 x102002 x104000 x104001))
def cal_Schedule.l1 : Nat → Int → Int → List Int → List Int → Int → Int → Int → Int → Int → Int → Option (List Int × Int)
 | 0, _, _, _, _, _, _, _, _, _, _ => none
 | k + 1, x3, x14, x16, x21, x22, x102000, x102001, x102002, x104000, x104001 => (cal_Add.f k x102000 x102001 x102002 x104000 x104001 x22).bind fun bt116 => ((cal_Day.f k bt116.1 bt116.2.1 bt116.2.2.1).bind fun bt121 => (if bt116.2.2.2 = 0 then (if bt121.2 = 0 then (cal_Schedule.j4 k x3 x14 x16 x21 x22 bt121.1 (decide (bt121.1 > x14)) x102000 x102001 x102002 x104000 x104001) else (cal_Schedule.j4 k x3 x14 x16 x21 x22 bt121.1 true x102000 x102001 x102002 x104000 x104001)) else (cal_Schedule.j4 k x3 x14 x16 x21 x22 bt121.1 true x102000 x102001 x102002 x104000 x104001)))
def cal_Schedule.j4 : Nat → Int → Int → List Int → List Int → Int → Int → Bool → Int → Int → Int → Int → Int → Option (List Int × Int)
 | 0, _, _, _, _, _, _, _, _, _, _, _, _ => none
 | k + 1, x3, x14, x16, x21, x22, x25, x100, x102000, x102001, x102002, x104000, x104001 => if x100 = true then (some (x21, 0)) else ((cal_Adjust.f k x25 x3 x16).bind fun bt123 => (if bt123.2 = 0 then (if (x21.length : Int) = 0 then (if x21.length < 17592186044416 then (cal_Schedule.l1 k x3 x14 x16 (x21 ++ [bt123.1]) (wrap64 (x22 + 1)) x102000 x102001 x102002 x104000 x104001) else (none)) else (if 0 ≤ (wrap64 ((x21.length : Int) - 1)) then (if (wrap64 ((x21.length : Int) - 1)) < (x21.length : Int) then (if bt123.1 > (rd x21 (wrap64 ((x21.length : Int) - 1))) then (if x21.length < 17592186044416 then (cal_Schedule.l1 k x3 x14 x16 (x21 ++ [bt123.1]) (wrap64 (x22 + 1)) x102000 x102001 x102002 x104000 x104001) else (none)) else (cal_Schedule.l1 k x3 x14 x16 x21 (wrap64 (x22 + 1)) x102000 x102001 x102002 x104000 x104001)) else (none)) else (none))) else (some (([] : List Int), bt123.2))))
end
def cal_Schedule.f (k : Nat) (a0_0 : Int) (a0_1 : Int) (a0_2 : Int) (a1_0 : Int) (a1_1 : Int) (a1_2 : Int) (a2_0 : Int) (a2_1 : Int) (a3 : Int) (l4 : List (S23)) : Option (List Int × Int) := (cal_validTenor.f a2_0 a2_1).bind fun t104 => (if t104 = true then (if a3 < 0 then (cal_Schedule.j0 k a3 l4 true a0_0 a0_1 a0_2 a1_0 a1_1 a1_2 a2_0 a2_1) else (cal_Schedule.j0 k a3 l4 (decide (a3 > 3)) a0_0 a0_1 a0_2 a1_0 a1_1 a1_2 a2_0 a2_1)) else (cal_Schedule.j0 k a3 l4 true a0_0 a0_1 a0_2 a1_0 a1_1 a1_2 a2_0 a2_1))
set_option maxHeartbeats 8000000 in
set_option maxRecDepth 100000 in
theorem cal_Schedule.calls (k : Nat) (a0_0 : Int) (a0_1 : Int) (a0_2 : Int) (a1_0 : Int) (a1_1 : Int) (a1_2 : Int) (a2_0 : Int) (a2_1 : Int) (a3 : Int) (A4 : Option Addr) (c4 : Nat) (l4 : List (S23)) (r1 : List Int) (r2 : Int) (w : World) (hr4 : Kd.C k23 w A4 l4.length l4) (hc4 : l4.length ≤ c4) (h : cal_Schedule.f k a0_0 a0_1 a0_2 a1_0 a1_1 a1_2 a2_0 a2_1 a3 l4 = some (r1, r2)) (G0 : TabW w) :
  Calls Tryd.prog 40 #[.agg #[.int .i64 a0_0, .int .i64 a0_1, .int .i64 a0_2], .agg #[.int .i64 a1_0, .int .i64 a1_1, .int .i64 a1_2], .agg #[.int .i64 a2_0, .int .i64 a2_1], .int .i64 a3, .slice A4 l4.length c4] w fun e w' => ∃ v0_ : Value, e = .returned (.tuple #[v0_, .int .i64 r2]) ∧ Kd.R (Kd.int .i64) 3 w' w.heap.size (fun _ => True) v0_ r1 ∧ Below w.heap.size w w' := by
 have GT := Aside0.mk G0
 clear G0
 have hu23 := Tryd.underlying23
 have hu41 := Tryd.underlying41
 have HR4 := Aside0.mk hr4
 have HC4 := Aside0.mk hc4
 clear hr4 hc4
 have HB := Aside0.mk (Below.refl w.heap.size w)
 have H : ((cal_validTenor.f a2_0 a2_1).bind fun t104 => (if t104 = true then (if a3 < 0 then (cal_Schedule.j0 k a3 l4 true a0_0 a0_1 a0_2 a1_0 a1_1 a1_2 a2_0 a2_1) else (cal_Schedule.j0 k a3 l4 (decide (a3 > 3)) a0_0 a0_1 a0_2 a1_0 a1_1 a1_2 a2_0 a2_1)) else (cal_Schedule.j0 k a3 l4 true a0_0 a0_1 a0_2 a1_0 a1_1 a1_2 a2_0 a2_1))) = some (r1, r2) := h
 clear h
 have HC6 := Aside0.mk H
 clear H
 go_enter Tryd.func40, Tryd.ntmps40
 go_upto_region 1 with (first | ((with_reducible refine gate_dst (N := 5) rfl ?_); (try (refine gate_guard (by rfl) ?_; dsimp only)); refine box_event ?hg (N := 5) ?hd (cs := #[.int .i64 a0_0, .int .i64 a0_1, .int .i64 a0_2]) (t := 23) ?hr ?_; (case hd => rfl); (case hg => rfl); (case hr => first | (go_simp; done) | (go_simp; rfl)); intro gb101 hg w7 hbox hb; have n0_ := Aside0.mk (below_step (BQ) hb); have n1_ := Aside0.mk (hbox); have n2_ := Aside0.mk ((by rw [hg]; exact (below_size (BQ)) : w.heap.size ≤ gb101)); have n3_ := Aside0.mk ((by rw [hg]; exact (below_size (BQ)) : w.heap.size ≤ gb101)); clear HB; have HB := n0_; have BK101 := n1_; have GW101 := n2_; have GE101 := n3_; clear n0_ n1_ n2_ n3_; clear hb hbox hg) | ((with_reducible refine gate_dst (N := 6) rfl ?_); (try (refine gate_guard (by rfl) ?_; dsimp only)); refine box_event ?hg (N := 6) ?hd (cs := #[.int .i64 a1_0, .int .i64 a1_1, .int .i64 a1_2]) (t := 23) ?hr ?_; (case hd => rfl); (case hg => rfl); (case hr => first | (go_simp; done) | (go_simp; rfl)); intro gb102 hg w8 hbox hb; have n0_ := Aside0.mk (blk_below (g := gb101) (o := .cells #[.int .i64 a0_0, .int .i64 a0_1, .int .i64 a0_2] 23 (0, 0)) ZQ hb); have n1_ := Aside0.mk (below_step (BQ) hb); have n2_ := Aside0.mk (hbox); have n3_ := Aside0.mk ((by rw [hg]; exact (below_size (BQ)) : w.heap.size ≤ gb102)); have n4_ := Aside0.mk ((by rw [hg]; exact (below_size (BQ)) : w.heap.size ≤ gb102)); have n5_ := Aside0.mk ((by rw [hg]; exact Nat.ne_of_lt (blk_lt (g := gb101) (o := .cells #[.int .i64 a0_0, .int .i64 a0_1, .int .i64 a0_2] 23 (0, 0)) ZQ) : gb101 ≠ gb102)); have n6_ := Aside0.mk ((by rw [hg]; exact Nat.ne_of_gt (blk_lt (g := gb101) (o := .cells #[.int .i64 a0_0, .int .i64 a0_1, .int .i64 a0_2] 23 (0, 0)) ZQ) : gb102 ≠ gb101)); clear BK101; clear HB; have BK101 := n0_; have HB := n1_; have BK102 := n2_; have GW102 := n3_; have GE102 := n4_; have NB101_102 := n5_; have NB102_101 := n6_; clear n0_ n1_ n2_ n3_ n4_ n5_ n6_; clear hb hbox hg) | ((with_reducible refine gate_dst (N := 7) rfl ?_); (try (refine gate_guard (by rfl) ?_; dsimp only)); refine box_event ?hg (N := 7) ?hd (cs := #[.int .i64 a2_0, .int .i64 a2_1]) (t := 41) ?hr ?_; (case hd => rfl); (case hg => rfl); (case hr => first | (go_simp; done) | (go_simp; rfl)); intro gb103 hg w9 hbox hb; have n0_ := Aside0.mk (blk_below (g := gb101) (o := .cells #[.int .i64 a0_0, .int .i64 a0_1, .int .i64 a0_2] 23 (0, 0)) ZQ hb); have n1_ := Aside0.mk (blk_below (g := gb102) (o := .cells #[.int .i64 a1_0, .int .i64 a1_1, .int .i64 a1_2] 23 (0, 0)) ZQ hb); have n2_ := Aside0.mk (below_step (BQ) hb); have n3_ := Aside0.mk (hbox); have n4_ := Aside0.mk ((by rw [hg]; exact (below_size (BQ)) : w.heap.size ≤ gb103)); have n5_ := Aside0.mk ((by rw [hg]; exact (below_size (BQ)) : w.heap.size ≤ gb103)); have n6_ := Aside0.mk ((by rw [hg]; exact Nat.ne_of_lt (blk_lt (g := gb101) (o := .cells #[.int .i64 a0_0, .int .i64 a0_1, .int .i64 a0_2] 23 (0, 0)) ZQ) : gb101 ≠ gb103)); have n7_ := Aside0.mk ((by rw [hg]; exact Nat.ne_of_gt (blk_lt (g := gb101) (o := .cells #[.int .i64 a0_0, .int .i64 a0_1, .int .i64 a0_2] 23 (0, 0)) ZQ) : gb103 ≠ gb101)); have n8_ := Aside0.mk ((by rw [hg]; exact Nat.ne_of_lt (blk_lt (g := gb102) (o := .cells #[.int .i64 a1_0, .int .i64 a1_1, .int .i64 a1_2] 23 (0, 0)) ZQ) : gb102 ≠ gb103)); have n9_ := Aside0.mk ((by rw [hg]; exact Nat.ne_of_gt (blk_lt (g := gb102) (o := .cells #[.int .i64 a1_0, .int .i64 a1_1, .int .i64 a1_2] 23 (0, 0)) ZQ) : gb103 ≠ gb102)); clear BK101; clear BK102; clear HB; have BK101 := n0_; have BK102 := n1_; have HB := n2_; have BK103 := n3_; have GW103 := n4_; have GE103 := n5_; have NB101_103 := n6_; have NB103_101 := n7_; have NB102_103 := n8_; have NB103_102 := n9_; clear n0_ n1_ n2_ n3_ n4_ n5_ n6_ n7_ n8_ n9_; clear hb hbox hg))
 (try simp only [Act.put, List.setIfInBounds_toArray, List.set_cons_zero, List.set_cons_succ])
 go_cut [37] (fun v37 wc => ∃ (kq : Nat) (x37_5 : Bool), v37 = .bool x37_5 ∧ Aside0 (cal_Schedule.j0 kq a3 l4 x37_5 a0_0 a0_1 a0_2 a1_0 a1_1 a1_2 a2_0 a2_1 = some (r1, r2)) ∧ Aside0 (kq ≤ k) ∧ Aside0 (wc.heap[gb101]? = some (.cells #[.int .i64 a0_0, .int .i64 a0_1, .int .i64 a0_2] 23 (0, 0))) ∧ Aside0 (wc.heap[gb102]? = some (.cells #[.int .i64 a1_0, .int .i64 a1_1, .int .i64 a1_2] 23 (0, 0))) ∧ Aside0 (wc.heap[gb103]? = some (.cells #[.int .i64 a2_0, .int .i64 a2_1] 41 (0, 0))) ∧ Aside0 (Below w.heap.size w wc))
 case first =>
  have H := HC6.out
  clear HC6
  replace H := Option.bind_eq_some_iff.mp H
  obtain ⟨t104, A100, H⟩ := H
  replace H : (if t104 = true then (if a3 < 0 then (cal_Schedule.j0 k a3 l4 true a0_0 a0_1 a0_2 a1_0 a1_1 a1_2 a2_0 a2_1) else (cal_Schedule.j0 k a3 l4 (decide (a3 > 3)) a0_0 a0_1 a0_2 a1_0 a1_1 a1_2 a2_0 a2_1)) else (cal_Schedule.j0 k a3 l4 true a0_0 a0_1 a0_2 a1_0 a1_1 a1_2 a2_0 a2_1)) = some (r1, r2) := H
  have A10 := Aside0.mk A100
  clear A100
  by_cases c11 : t104 = true
  ·subst c11
   have H1 : (if a3 < 0 then (cal_Schedule.j0 k a3 l4 true a0_0 a0_1 a0_2 a1_0 a1_1 a1_2 a2_0 a2_1) else (cal_Schedule.j0 k a3 l4 (decide (a3 > 3)) a0_0 a0_1 a0_2 a1_0 a1_1 a1_2 a2_0 a2_1)) = some (r1, r2) := by rw [if_pos rfl] at H; exact H
   clear H
   have H := H1
   clear H1
   by_cases c12 : a3 < 0
   ·rw [if_pos c12] at H
    have c12b0 : decide (a3 < 0) = true := decide_eq_true c12
    clear c12
    (first | rw [c12b0] | (simp only [i64_w, i32_w]; rw [c12b0]) | skip)
    have H' := Aside0.mk H
    clear H
    have hnb13 := NB103_101.out
    have hnc13 := NB101_103.out
    have hnb14 := NB103_102.out
    have hnc14 := NB102_103.out
    have hcz15_0 : w9.cell? ⟨gb103, 0, none⟩ = some (.int .i64 a2_0) := (blk_cell BK103.out 0).trans rfl
    have hcz15_1 : w9.cell? ⟨gb103, 1, none⟩ = some (.int .i64 a2_1) := (blk_cell BK103.out 1).trans rfl
    have hfz15_0 := blk_frozen BK103.out 0
    have hfz15_1 := blk_frozen BK103.out 1
    go_wp2_with (first | ((with_reducible refine gate_callee (f := 54) rfl ?_); refine goesL_ (some 28) rfl rfl Tryd.func54 (by kernel_rfl) rfl #[.agg #[.int .i64 a2_0, .int .i64 a2_1]] rfl SQ ?_; (with_reducible refine (cal_validTenor.calls a2_0 a2_1 true _ A10.out).mono ?_); rintro e w16 ⟨rfl, hb⟩; refine ⟨_, rfl, ?_⟩; have n0_ := Aside0.mk (blk_below (g := gb101) (o := .cells #[.int .i64 a0_0, .int .i64 a0_1, .int .i64 a0_2] 23 (0, 0)) ZQ hb); have n1_ := Aside0.mk (blk_below (g := gb102) (o := .cells #[.int .i64 a1_0, .int .i64 a1_1, .int .i64 a1_2] 23 (0, 0)) ZQ hb); have n2_ := Aside0.mk (blk_below (g := gb103) (o := .cells #[.int .i64 a2_0, .int .i64 a2_1] 41 (0, 0)) ZQ hb); have n3_ := Aside0.mk (below_step (BQ) hb); clear BK101; clear BK102; clear BK103; clear HB; have BK101 := n0_; have BK102 := n1_; have BK103 := n2_; have HB := n3_; clear n0_ n1_ n2_ n3_; (try clear hb); (try clear hb2); (try clear hk); (try clear hi)))
    go_meet
    case rel => exact ⟨_, (true), (by first | rfl | (simp; done) | (simp [*]; done)), H', ⟨by first | omega | exact Nat.le_refl _⟩, ⟨by (with_reducible repeat (first | refine blk_drewN ?_ _ | refine blk_drew ?_ | refine blk_alloc ?_ _)); exact BK101.out⟩, ⟨by (with_reducible repeat (first | refine blk_drewN ?_ _ | refine blk_drew ?_ | refine blk_alloc ?_ _)); exact BK102.out⟩, ⟨by (with_reducible repeat (first | refine blk_drewN ?_ _ | refine blk_drew ?_ | refine blk_alloc ?_ _)); exact BK103.out⟩, ⟨BQ⟩⟩
   ·rw [if_neg c12] at H
    have c12b0 : decide (a3 < 0) = false := decide_eq_false c12
    clear c12
    (first | rw [c12b0] | (simp only [i64_w, i32_w]; rw [c12b0]) | skip)
    have H' := Aside0.mk H
    clear H
    have hnb17 := NB103_101.out
    have hnc17 := NB101_103.out
    have hnb18 := NB103_102.out
    have hnc18 := NB102_103.out
    have hcz19_0 : w9.cell? ⟨gb103, 0, none⟩ = some (.int .i64 a2_0) := (blk_cell BK103.out 0).trans rfl
    have hcz19_1 : w9.cell? ⟨gb103, 1, none⟩ = some (.int .i64 a2_1) := (blk_cell BK103.out 1).trans rfl
    have hfz19_0 := blk_frozen BK103.out 0
    have hfz19_1 := blk_frozen BK103.out 1
    go_wp2_with (first | ((with_reducible refine gate_callee (f := 54) rfl ?_); refine goesL_ (some 28) rfl rfl Tryd.func54 (by kernel_rfl) rfl #[.agg #[.int .i64 a2_0, .int .i64 a2_1]] rfl SQ ?_; (with_reducible refine (cal_validTenor.calls a2_0 a2_1 true _ A10.out).mono ?_); rintro e w20 ⟨rfl, hb⟩; refine ⟨_, rfl, ?_⟩; have n0_ := Aside0.mk (blk_below (g := gb101) (o := .cells #[.int .i64 a0_0, .int .i64 a0_1, .int .i64 a0_2] 23 (0, 0)) ZQ hb); have n1_ := Aside0.mk (blk_below (g := gb102) (o := .cells #[.int .i64 a1_0, .int .i64 a1_1, .int .i64 a1_2] 23 (0, 0)) ZQ hb); have n2_ := Aside0.mk (blk_below (g := gb103) (o := .cells #[.int .i64 a2_0, .int .i64 a2_1] 41 (0, 0)) ZQ hb); have n3_ := Aside0.mk (below_step (BQ) hb); clear BK101; clear BK102; clear BK103; clear HB; have BK101 := n0_; have BK102 := n1_; have BK103 := n2_; have HB := n3_; clear n0_ n1_ n2_ n3_; (try clear hb); (try clear hb2); (try clear hk); (try clear hi)))
    go_meet
    case rel => exact ⟨_, (decide (a3 > 3)), (by first | rfl | (simp; done) | (simp [*]; done)), H', ⟨by first | omega | exact Nat.le_refl _⟩, ⟨by (with_reducible repeat (first | refine blk_drewN ?_ _ | refine blk_drew ?_ | refine blk_alloc ?_ _)); exact BK101.out⟩, ⟨by (with_reducible repeat (first | refine blk_drewN ?_ _ | refine blk_drew ?_ | refine blk_alloc ?_ _)); exact BK102.out⟩, ⟨by (with_reducible repeat (first | refine blk_drewN ?_ _ | refine blk_drew ?_ | refine blk_alloc ?_ _)); exact BK103.out⟩, ⟨BQ⟩⟩
  ·replace c11 := Bool.eq_false_iff.mpr c11
   subst c11
   have H1 : (cal_Schedule.j0 k a3 l4 true a0_0 a0_1 a0_2 a1_0 a1_1 a1_2 a2_0 a2_1) = some (r1, r2) := by rw [if_neg (show ¬ (false = true) by decide)] at H; exact H
   clear H
   have H := H1
   clear H1
   have H' := Aside0.mk H
   clear H
   have hnb21 := NB103_101.out
   have hnc21 := NB101_103.out
   have hnb22 := NB103_102.out
   have hnc22 := NB102_103.out
   have hcz23_0 : w9.cell? ⟨gb103, 0, none⟩ = some (.int .i64 a2_0) := (blk_cell BK103.out 0).trans rfl
   have hcz23_1 : w9.cell? ⟨gb103, 1, none⟩ = some (.int .i64 a2_1) := (blk_cell BK103.out 1).trans rfl
   have hfz23_0 := blk_frozen BK103.out 0
   have hfz23_1 := blk_frozen BK103.out 1
   go_wp2_with (first | ((with_reducible refine gate_callee (f := 54) rfl ?_); refine goesL_ (some 28) rfl rfl Tryd.func54 (by kernel_rfl) rfl #[.agg #[.int .i64 a2_0, .int .i64 a2_1]] rfl SQ ?_; (with_reducible refine (cal_validTenor.calls a2_0 a2_1 false _ A10.out).mono ?_); rintro e w24 ⟨rfl, hb⟩; refine ⟨_, rfl, ?_⟩; have n0_ := Aside0.mk (blk_below (g := gb101) (o := .cells #[.int .i64 a0_0, .int .i64 a0_1, .int .i64 a0_2] 23 (0, 0)) ZQ hb); have n1_ := Aside0.mk (blk_below (g := gb102) (o := .cells #[.int .i64 a1_0, .int .i64 a1_1, .int .i64 a1_2] 23 (0, 0)) ZQ hb); have n2_ := Aside0.mk (blk_below (g := gb103) (o := .cells #[.int .i64 a2_0, .int .i64 a2_1] 41 (0, 0)) ZQ hb); have n3_ := Aside0.mk (below_step (BQ) hb); clear BK101; clear BK102; clear BK103; clear HB; have BK101 := n0_; have BK102 := n1_; have BK103 := n2_; have HB := n3_; clear n0_ n1_ n2_ n3_; (try clear hb); (try clear hb2); (try clear hk); (try clear hi)))
   go_meet
   case rel => exact ⟨_, (true), (by first | rfl | (simp; done) | (simp [*]; done)), H', ⟨by first | omega | exact Nat.le_refl _⟩, ⟨by (with_reducible repeat (first | refine blk_drewN ?_ _ | refine blk_drew ?_ | refine blk_alloc ?_ _)); exact BK101.out⟩, ⟨by (with_reducible repeat (first | refine blk_drewN ?_ _ | refine blk_drew ?_ | refine blk_alloc ?_ _)); exact BK102.out⟩, ⟨by (with_reducible repeat (first | refine blk_drewN ?_ _ | refine blk_drew ?_ | refine blk_alloc ?_ _)); exact BK103.out⟩, ⟨BQ⟩⟩
 case rest =>
  clear HC6
  try clear c1
  try clear c2
  try clear p2
  try clear c4
  try clear c5
  try clear c11
  try clear c12
  try clear c12b0
  try clear c13
  try clear c14
  try clear c17
  try clear c18
  try clear c21
  try clear c22
  try clear hcz15_0 hcz15_1
  try clear hcz19_0 hcz19_1
  try clear hcz23_0 hcz23_1
  try clear hfz15_0 hfz15_1
  try clear hfz19_0 hfz19_1
  try clear hfz23_0 hfz23_1
  obtain ⟨kq, x37_5, rfl, HA, HJ5, BK101, BK102, BK103, HB⟩ := hcut
  cases kq with
  | zero => exact absurd HA.out (by simp [cal_Schedule.j0])
  | succ kj5 =>
   have H := HA.out
   clear HA
   simp only [cal_Schedule.j0] at H
   by_cases c25 : x37_5 = true
   ·subst c25
    have H1 : (some (([] : List Int), 1)) = some (r1, r2) := by rw [if_pos rfl] at H; exact H
    clear H
    have H := H1
    clear H1
    simp only [Option.some.injEq, Prod.mk.injEq] at H
    obtain ⟨rfl, rfl⟩ := H
    go_wp2
    go_ret2
    exact ⟨_, by first | rfl | (simp [errW_none, errW_some] <;> rfl) | (simp [*, errW_none, errW_some] <;> rfl), by first | exact Kd.R_nil _ _ _ _ _ | exact Kd.N_nil _ _ _ _ _ | exact Kd.V_nil _ _ _ _ _ | exact Kd.Q_nil _ _ _ _ _ | exact Kd.S_nil _ _ _ _ _, BQ⟩
   ·replace c25 := Bool.eq_false_iff.mpr c25
    subst c25
    have H1 : ((cal_Day.f kj5 a0_0 a0_1 a0_2).bind fun bt105 => ((cal_Day.f kj5 a1_0 a1_1 a1_2).bind fun bt107 => (if bt105.2 = 0 then (cal_Schedule.j1 kj5 a3 l4 bt105.1 bt107.1 (bt107.2 != 0) a0_0 a0_1 a0_2 a2_0 a2_1) else (cal_Schedule.j1 kj5 a3 l4 bt105.1 bt107.1 true a0_0 a0_1 a0_2 a2_0 a2_1)))) = some (r1, r2) := by rw [if_neg (show ¬ (false = true) by decide)] at H; exact H
    clear H
    have H := H1
    clear H1
    replace H := Option.bind_eq_some_iff.mp H
    obtain ⟨⟨t105, t106⟩, A260, H⟩ := H
    replace H : ((cal_Day.f kj5 a1_0 a1_1 a1_2).bind fun bt107 => (if t106 = 0 then (cal_Schedule.j1 kj5 a3 l4 t105 bt107.1 (bt107.2 != 0) a0_0 a0_1 a0_2 a2_0 a2_1) else (cal_Schedule.j1 kj5 a3 l4 t105 bt107.1 true a0_0 a0_1 a0_2 a2_0 a2_1))) = some (r1, r2) := H
    have A26 := Aside0.mk A260
    clear A260
    replace H := Option.bind_eq_some_iff.mp H
    obtain ⟨⟨t107, t108⟩, A270, H⟩ := H
    replace H : (if t106 = 0 then (cal_Schedule.j1 kj5 a3 l4 t105 t107 (t108 != 0) a0_0 a0_1 a0_2 a2_0 a2_1) else (cal_Schedule.j1 kj5 a3 l4 t105 t107 true a0_0 a0_1 a0_2 a2_0 a2_1)) = some (r1, r2) := H
    have A27 := Aside0.mk A270
    clear A270
    have HC28 := Aside0.mk H
    clear H
    have hnb29 := NB101_102.out
    have hnc29 := NB102_101.out
    have hnb30 := NB101_103.out
    have hnc30 := NB103_101.out
    have hcz31_0 : wc.cell? ⟨gb101, 0, none⟩ = some (.int .i64 a0_0) := (blk_cell BK101.out 0).trans rfl
    have hcz31_1 : wc.cell? ⟨gb101, 1, none⟩ = some (.int .i64 a0_1) := (blk_cell BK101.out 1).trans rfl
    have hcz31_2 : wc.cell? ⟨gb101, 2, none⟩ = some (.int .i64 a0_2) := (blk_cell BK101.out 2).trans rfl
    have hfz31_0 := blk_frozen BK101.out 0
    have hfz31_1 := blk_frozen BK101.out 1
    have hfz31_2 := blk_frozen BK101.out 2
    go_upto_region 5 with (first | ((with_reducible refine gate_callee (f := 18) rfl ?_); refine goesL_ (some 40) rfl rfl Tryd.func18 (by kernel_rfl) rfl #[.agg #[.int .i64 a0_0, .int .i64 a0_1, .int .i64 a0_2]] rfl SQ ?_; (with_reducible refine (cal_Day.calls kj5 a0_0 a0_1 a0_2 t105 t106 _ A26.out TQ).mono ?_); rintro e w32 ⟨rfl, hb⟩; refine ⟨_, rfl, ?_⟩; have n0_ := Aside0.mk (blk_below (g := gb101) (o := .cells #[.int .i64 a0_0, .int .i64 a0_1, .int .i64 a0_2] 23 (0, 0)) ZQ hb); have n1_ := Aside0.mk (blk_below (g := gb102) (o := .cells #[.int .i64 a1_0, .int .i64 a1_1, .int .i64 a1_2] 23 (0, 0)) ZQ hb); have n2_ := Aside0.mk (blk_below (g := gb103) (o := .cells #[.int .i64 a2_0, .int .i64 a2_1] 41 (0, 0)) ZQ hb); have n3_ := Aside0.mk (below_step (BQ) hb); clear BK101; clear BK102; clear BK103; clear HB; have BK101 := n0_; have BK102 := n1_; have BK103 := n2_; have HB := n3_; clear n0_ n1_ n2_ n3_; (try clear hb); (try clear hb2); (try clear hk); (try clear hi); have hnb33 := NB102_103.out; have hnc33 := NB103_102.out; have hcz34_0 : w32.cell? ⟨gb102, 0, none⟩ = some (.int .i64 a1_0) := (blk_cell BK102.out 0).trans rfl; have hcz34_1 : w32.cell? ⟨gb102, 1, none⟩ = some (.int .i64 a1_1) := (blk_cell BK102.out 1).trans rfl; have hcz34_2 : w32.cell? ⟨gb102, 2, none⟩ = some (.int .i64 a1_2) := (blk_cell BK102.out 2).trans rfl; have hfz34_0 := blk_frozen BK102.out 0; have hfz34_1 := blk_frozen BK102.out 1; have hfz34_2 := blk_frozen BK102.out 2) | ((with_reducible refine gate_callee (f := 18) rfl ?_); refine goesL_ (some 45) rfl rfl Tryd.func18 (by kernel_rfl) rfl #[.agg #[.int .i64 a1_0, .int .i64 a1_1, .int .i64 a1_2]] rfl SQ ?_; (with_reducible refine (cal_Day.calls kj5 a1_0 a1_1 a1_2 t107 t108 _ A27.out TQ).mono ?_); rintro e w35 ⟨rfl, hb⟩; refine ⟨_, rfl, ?_⟩; have n0_ := Aside0.mk (blk_below (g := gb101) (o := .cells #[.int .i64 a0_0, .int .i64 a0_1, .int .i64 a0_2] 23 (0, 0)) ZQ hb); have n1_ := Aside0.mk (blk_below (g := gb102) (o := .cells #[.int .i64 a1_0, .int .i64 a1_1, .int .i64 a1_2] 23 (0, 0)) ZQ hb); have n2_ := Aside0.mk (blk_below (g := gb103) (o := .cells #[.int .i64 a2_0, .int .i64 a2_1] 41 (0, 0)) ZQ hb); have n3_ := Aside0.mk (below_step (BQ) hb); clear BK101; clear BK102; clear BK103; clear HB; have BK101 := n0_; have BK102 := n1_; have BK103 := n2_; have HB := n3_; clear n0_ n1_ n2_ n3_; (try clear hb); (try clear hb2); (try clear hk); (try clear hi)))
    (try simp only [Act.put, List.setIfInBounds_toArray, List.set_cons_zero, List.set_cons_succ])
    go_cut [53] (fun v53 wc => ∃ (kq : Nat) (x53_27 : Bool), v53 = .bool x53_27 ∧ Aside0 (cal_Schedule.j1 kq a3 l4 t105 t107 x53_27 a0_0 a0_1 a0_2 a2_0 a2_1 = some (r1, r2)) ∧ Aside0 (kq ≤ kj5) ∧ Aside0 (wc.heap[gb101]? = some (.cells #[.int .i64 a0_0, .int .i64 a0_1, .int .i64 a0_2] 23 (0, 0))) ∧ Aside0 (wc.heap[gb102]? = some (.cells #[.int .i64 a1_0, .int .i64 a1_1, .int .i64 a1_2] 23 (0, 0))) ∧ Aside0 (wc.heap[gb103]? = some (.cells #[.int .i64 a2_0, .int .i64 a2_1] 41 (0, 0))) ∧ Aside0 (Below w.heap.size w wc))
    case first =>
     have H := HC28.out
     clear HC28
     by_cases c36 : t106 = 0
     ·rw [if_pos c36] at H
      have c36b0 : (t106 == 0) = true := beq_iff_eq.mpr c36
      have c36b1 : (t106 != 0) = false := bne_eq_false_iff_eq.mpr c36
      clear c36
      (first | rw [c36b0] | (simp only [i64_w, i32_w]; rw [c36b0]) | skip)
      have H' := Aside0.mk H
      clear H
      go_wp2
      go_meet
      case rel => exact ⟨_, ((t108 != 0)), (by first | rfl | (simp; done) | (simp [*]; done)), H', ⟨by have := HJ5.out; first | omega | exact Nat.le_refl _⟩, ⟨by (with_reducible repeat (first | refine blk_drewN ?_ _ | refine blk_drew ?_ | refine blk_alloc ?_ _)); exact BK101.out⟩, ⟨by (with_reducible repeat (first | refine blk_drewN ?_ _ | refine blk_drew ?_ | refine blk_alloc ?_ _)); exact BK102.out⟩, ⟨by (with_reducible repeat (first | refine blk_drewN ?_ _ | refine blk_drew ?_ | refine blk_alloc ?_ _)); exact BK103.out⟩, ⟨BQ⟩⟩
     ·rw [if_neg c36] at H
      have c36b0 : (t106 == 0) = false := beq_eq_false_iff_ne.mpr c36
      have c36b1 : (t106 != 0) = true := bne_iff_ne.mpr c36
      (first | rw [c36b0] | (simp only [i64_w, i32_w]; rw [c36b0]) | skip)
      have H' := Aside0.mk H
      clear H
      go_wp2
      go_meet
      case rel => exact ⟨_, (true), (by first | rfl | (simp; done) | (simp [*]; done)), H', ⟨by have := HJ5.out; first | omega | exact Nat.le_refl _⟩, ⟨by (with_reducible repeat (first | refine blk_drewN ?_ _ | refine blk_drew ?_ | refine blk_alloc ?_ _)); exact BK101.out⟩, ⟨by (with_reducible repeat (first | refine blk_drewN ?_ _ | refine blk_drew ?_ | refine blk_alloc ?_ _)); exact BK102.out⟩, ⟨by (with_reducible repeat (first | refine blk_drewN ?_ _ | refine blk_drew ?_ | refine blk_alloc ?_ _)); exact BK103.out⟩, ⟨BQ⟩⟩
    case rest =>
     clear HC28
     try clear c1
     try clear c2
     try clear p2 p2
     try clear c3
     try clear c4
     try clear c5
     try clear c11
     try clear c12
     try clear c12b0
     try clear c13
     try clear c14
     try clear c17
     try clear c18
     try clear c21
     try clear c22
     try clear c25
     try clear c29
     try clear c30
     try clear c33
     try clear c36
     try clear c36b0
     try clear c36b1
     try clear hcz15_0 hcz15_1
     try clear hcz19_0 hcz19_1
     try clear hcz23_0 hcz23_1
     try clear hcz31_0 hcz31_1 hcz31_2
     try clear hcz34_0 hcz34_1 hcz34_2
     try clear hfz15_0 hfz15_1
     try clear hfz19_0 hfz19_1
     try clear hfz23_0 hfz23_1
     try clear hfz31_0 hfz31_1 hfz31_2
     try clear hfz34_0 hfz34_1 hfz34_2
     obtain ⟨kq, x53_27, rfl, HA, HJ27, BK101, BK102, BK103, HB⟩ := hcut
     cases kq with
     | zero => exact absurd HA.out (by simp [cal_Schedule.j1])
     | succ kj27 =>
      have H := HA.out
      clear HA
      simp only [cal_Schedule.j1] at H
      by_cases c37 : x53_27 = true
      ·subst c37
       have H1 : (some (([] : List Int), 21)) = some (r1, r2) := by rw [if_pos rfl] at H; exact H
       clear H
       have H := H1
       clear H1
       simp only [Option.some.injEq, Prod.mk.injEq] at H
       obtain ⟨rfl, rfl⟩ := H
       go_wp2
       go_ret2
       exact ⟨_, by first | rfl | (simp [errW_none, errW_some] <;> rfl) | (simp [*, errW_none, errW_some] <;> rfl), by first | exact Kd.R_nil _ _ _ _ _ | exact Kd.N_nil _ _ _ _ _ | exact Kd.V_nil _ _ _ _ _ | exact Kd.Q_nil _ _ _ _ _ | exact Kd.S_nil _ _ _ _ _, BQ⟩
      ·replace c37 := Bool.eq_false_iff.mpr c37
       subst c37
       have H1 : (cal_Schedule.l0 kj27 a3 t105 t107 ([] : List Int) l4 (l4.length : Int) 0 a0_0 a0_1 a0_2 a2_0 a2_1) = some (r1, r2) := by rw [if_neg (show ¬ (false = true) by decide)] at H; exact H
       clear H
       have H := H1
       clear H1
       have H' := Aside0.mk H
       clear H
       go_wp2
       go_loopg [16, 56] kj27 (fun kq v16 v56 w' => ∃ (x16_3 : List Int) (x56_3 : Int), v56 = .int .i64 x56_3 ∧ Aside0 (cal_Schedule.l0 kq a3 t105 t107 x16_3 l4 (l4.length : Int) x56_3 a0_0 a0_1 a0_2 a2_0 a2_1 = some (r1, r2)) ∧ Aside0 (kq ≤ kj27) ∧ Aside0 (Kd.R (Kd.int .i64) 3 w' w.heap.size (fun _ => True) v16 x16_3) ∧ Aside0 (w'.heap[gb101]? = some (.cells #[.int .i64 a0_0, .int .i64 a0_1, .int .i64 a0_2] 23 (0, 0))) ∧ Aside0 (w'.heap[gb102]? = some (.cells #[.int .i64 a1_0, .int .i64 a1_1, .int .i64 a1_2] 23 (0, 0))) ∧ Aside0 (w'.heap[gb103]? = some (.cells #[.int .i64 a2_0, .int .i64 a2_1] 41 (0, 0))) ∧ Aside0 (Below w.heap.size w w'))
       case atStart => exact ⟨(([] : List Int)), (0), (by first | rfl | (simp; done) | (simp [*]; done)), H', ⟨Nat.le_refl _⟩, ⟨by first | exact Kd.R_nil _ _ _ _ _ | exact Kd.N_nil _ _ _ _ _ | exact Kd.V_nil _ _ _ _ _ | exact Kd.Q_nil _ _ _ _ _ | exact Kd.S_nil _ _ _ _ _⟩, ⟨by (with_reducible repeat (first | refine blk_drewN ?_ _ | refine blk_drew ?_ | refine blk_alloc ?_ _)); exact BK101.out⟩, ⟨by (with_reducible repeat (first | refine blk_drewN ?_ _ | refine blk_drew ?_ | refine blk_alloc ?_ _)); exact BK102.out⟩, ⟨by (with_reducible repeat (first | refine blk_drewN ?_ _ | refine blk_drew ?_ | refine blk_alloc ?_ _)); exact BK103.out⟩, ⟨BQ⟩⟩
       case round =>
        clear H'
        try clear c1
        try clear c2
        try clear p2 p2
        try clear c3
        try clear c4
        try clear c5
        try clear c11
        try clear c12
        try clear c12b0
        try clear c13
        try clear c14
        try clear c17
        try clear c18
        try clear c21
        try clear c22
        try clear c25
        try clear c29
        try clear c30
        try clear c33
        try clear c36
        try clear c36b0
        try clear c36b1
        try clear c37
        try clear hcz15_0 hcz15_1
        try clear hcz19_0 hcz19_1
        try clear hcz23_0 hcz23_1
        try clear hcz31_0 hcz31_1 hcz31_2
        try clear hcz34_0 hcz34_1 hcz34_2
        try clear hfz15_0 hfz15_1
        try clear hfz19_0 hfz19_1
        try clear hfz23_0 hfz23_1
        try clear hfz31_0 hfz31_1 hfz31_2
        try clear hfz34_0 hfz34_1 hfz34_2
        obtain ⟨x16_3, x56_3, rfl, HA, HK3, HO_16, BK101, BK102, BK103, HB⟩ := hrel
        cases gk with
        | zero => exact absurd HA.out (by simp [cal_Schedule.l0])
        | succ k3 =>
         have H := HA.out
         clear HA
         simp only [cal_Schedule.l0] at H
         by_cases c38 : x56_3 < (l4.length : Int)
         ·rw [if_pos c38] at H
          have c38b0 : decide (x56_3 < (l4.length : Int)) = true := decide_eq_true c38
          clear c38
          by_cases c39 : 0 ≤ x56_3
          case neg => rw [if_neg c39] at H; exact absurd H (by simp)
          rw [if_pos c39] at H
          have c39b0 : decide (0 ≤ x56_3) = true := decide_eq_true c39
          clear c39
          by_cases c40 : x56_3 < (l4.length : Int)
          case neg => rw [if_neg c40] at H; exact absurd H (by simp)
          rw [if_pos c40] at H
          have c40b0 : decide (x56_3 < (l4.length : Int)) = true := decide_eq_true c40
          clear c40
          replace H := Option.bind_eq_some_iff.mp H
          obtain ⟨⟨t111, t112⟩, A410, H⟩ := H
          replace H : (if t112 = 0 then (if x16_3.length < 17592186044416 then (cal_Schedule.l0 k3 a3 t105 t107 (x16_3 ++ [t111]) l4 (l4.length : Int) (wrap64 (x56_3 + 1)) a0_0 a0_1 a0_2 a2_0 a2_1) else (none)) else (some (([] : List Int), t112))) = some (r1, r2) := H
          have A41 := Aside0.mk A410
          clear A410
          by_cases c42 : t112 = 0
          ·rw [if_pos c42] at H
           have c42b0 : (t112 == 0) = true := beq_iff_eq.mpr c42
           have c42b1 : (t112 != 0) = false := bne_eq_false_iff_eq.mpr c42
           clear c42
           by_cases c43 : x16_3.length < 17592186044416
           case neg => rw [if_neg c43] at H; exact absurd H (by simp)
           rw [if_pos c43] at H
           have LMc43 := Aside0.mk c43
           clear c43
           obtain ⟨y113, hy113⟩ : ∃ y_ : List Int, y_ = (x16_3 ++ [t111]) := ⟨_, rfl⟩
           replace H : (cal_Schedule.l0 k3 a3 t105 t107 y113 l4 (l4.length : Int) (wrap64 (x56_3 + 1)) a0_0 a0_1 a0_2 a2_0 a2_1) = some (r1, r2) := by first | (rw [hy113]; with_reducible exact H) | (have H2_ := (Option.bind_some _ _).symm.trans H; rw [hy113]; with_reducible exact H2_) | (have H2_ := (Option.bind_some _ _).symm.trans H; with_reducible exact H2_) | with_reducible exact H | (rw [hy113]; exact H) | exact H
           have Ny113 := Aside0.mk hy113
           clear hy113
           have H' := Aside0.mk H
           clear H
           have p109 : 0 ≤ (x56_3 : Int) := of_decide_eq_true (by first | (with_reducible assumption) | assumption)
           have q109 : x56_3 < (l4.length : Int) := of_decide_eq_true (by first | (with_reducible assumption) | assumption)
           obtain ⟨ad109, e109, hx109_0, hx109_1, hx109_2⟩ := at_T23 HR4.out x56_3 p109 q109
           cases e109
           replace hx109_0 := (HB.out.cell (World.block_lt_of_cell? w _ hx109_0)).trans hx109_0
           replace hx109_1 := (HB.out.cell (World.block_lt_of_cell? w _ hx109_1)).trans hx109_1
           replace hx109_2 := (HB.out.cell (World.block_lt_of_cell? w _ hx109_2)).trans hx109_2
           replace p109 := eq_true p109
           replace q109 := eq_true q109
           go_wp2_with (first | ((with_reducible refine gate_dst (N := 18) rfl ?_); (try (refine gate_guard (by rfl) ?_; dsimp only)); refine box_event ?hg (N := 18) ?hd (cs := #[.int .i64 0, .int .i64 0, .int .i64 0]) (t := 23) ?hr ?_; (case hd => rfl); (case hg => rfl); (case hr => first | (go_simp; done) | (go_simp; rfl)); intro gb110 hg w44 hbox hb; have n0_ := Aside0.mk (Kd.R_below (by (with_reducible repeat (first | apply kA | apply kN | apply kD)); exact HO_16.out) hb); have n1_ := Aside0.mk (blk_below (g := gb101) (o := .cells #[.int .i64 a0_0, .int .i64 a0_1, .int .i64 a0_2] 23 (0, 0)) ZQ hb); have n2_ := Aside0.mk (blk_below (g := gb102) (o := .cells #[.int .i64 a1_0, .int .i64 a1_1, .int .i64 a1_2] 23 (0, 0)) ZQ hb); have n3_ := Aside0.mk (blk_below (g := gb103) (o := .cells #[.int .i64 a2_0, .int .i64 a2_1] 41 (0, 0)) ZQ hb); have n4_ := Aside0.mk (below_step (BQ) hb); have n5_ := Aside0.mk (hbox); have n6_ := Aside0.mk ((by rw [hg]; exact (below_size (BQ)) : w.heap.size ≤ gb110)); have n7_ := Aside0.mk ((by rw [hg]; exact (below_size (BQ)) : w.heap.size ≤ gb110)); have n8_ := Aside0.mk ((by rw [hg]; exact Nat.ne_of_lt (blk_lt (g := gb101) (o := .cells #[.int .i64 a0_0, .int .i64 a0_1, .int .i64 a0_2] 23 (0, 0)) ZQ) : gb101 ≠ gb110)); have n9_ := Aside0.mk ((by rw [hg]; exact Nat.ne_of_gt (blk_lt (g := gb101) (o := .cells #[.int .i64 a0_0, .int .i64 a0_1, .int .i64 a0_2] 23 (0, 0)) ZQ) : gb110 ≠ gb101)); have n10_ := Aside0.mk ((by rw [hg]; exact Nat.ne_of_lt (blk_lt (g := gb102) (o := .cells #[.int .i64 a1_0, .int .i64 a1_1, .int .i64 a1_2] 23 (0, 0)) ZQ) : gb102 ≠ gb110)); have n11_ := Aside0.mk ((by rw [hg]; exact Nat.ne_of_gt (blk_lt (g := gb102) (o := .cells #[.int .i64 a1_0, .int .i64 a1_1, .int .i64 a1_2] 23 (0, 0)) ZQ) : gb110 ≠ gb102)); have n12_ := Aside0.mk ((by rw [hg]; exact Nat.ne_of_lt (blk_lt (g := gb103) (o := .cells #[.int .i64 a2_0, .int .i64 a2_1] 41 (0, 0)) ZQ) : gb103 ≠ gb110)); have n13_ := Aside0.mk ((by rw [hg]; exact Nat.ne_of_gt (blk_lt (g := gb103) (o := .cells #[.int .i64 a2_0, .int .i64 a2_1] 41 (0, 0)) ZQ) : gb110 ≠ gb103)); clear HO_16; clear BK101; clear BK102; clear BK103; clear HB; have HO_16 := n0_; have BK101 := n1_; have BK102 := n2_; have BK103 := n3_; have HB := n4_; have BK110 := n5_; have GW110 := n6_; have GE110 := n7_; have NB101_110 := n8_; have NB110_101 := n9_; have NB102_110 := n10_; have NB110_102 := n11_; have NB103_110 := n12_; have NB110_103 := n13_; clear n0_ n1_ n2_ n3_ n4_ n5_ n6_ n7_ n8_ n9_ n10_ n11_ n12_ n13_; clear hb hbox hg; have hnb45 := NB110_101.out; have hnc45 := NB101_110.out; have hnb46 := NB110_102.out; have hnc46 := NB102_110.out; have hnb47 := NB110_103.out; have hnc47 := NB103_110.out; have hcz48_0 : w44.cell? ⟨gb110, 0, none⟩ = some (.int .i64 0) := (blk_cell BK110.out 0).trans rfl; have hcz48_1 : w44.cell? ⟨gb110, 1, none⟩ = some (.int .i64 0) := (blk_cell BK110.out 1).trans rfl; have hcz48_2 : w44.cell? ⟨gb110, 2, none⟩ = some (.int .i64 0) := (blk_cell BK110.out 2).trans rfl; have hfz48_0 := blk_frozen BK110.out 0; have hfz48_1 := blk_frozen BK110.out 1; have hfz48_2 := blk_frozen BK110.out 2) | ((with_reducible refine gate_callee (f := 18) rfl ?_); refine goesL_ (some 62) rfl rfl Tryd.func18 (by kernel_rfl) rfl #[.agg #[.int .i64 ((rd_T23 l4 x56_3).f0), .int .i64 ((rd_T23 l4 x56_3).f1), .int .i64 ((rd_T23 l4 x56_3).f2)]] rfl SQ ?_; (with_reducible refine (cal_Day.calls k3 ((rd_T23 l4 x56_3).f0) ((rd_T23 l4 x56_3).f1) ((rd_T23 l4 x56_3).f2) t111 t112 _ A41.out TQ).mono ?_); rintro e w49 ⟨rfl, hb⟩; refine ⟨_, rfl, ?_⟩; have n0_ := Aside0.mk (Kd.R_below (by (with_reducible repeat (first | apply kA | apply kN | apply kD)); exact (Kd.R_mono (Kd.R_far (p := ⟨gb110, 2, none⟩) (Kd.R_far (p := ⟨gb110, 1, none⟩) (Kd.R_far (p := ⟨gb110, 0, none⟩) (Kd.R_types HO_16.out BK110.out (by decide)) (fun _ hk => hk.2) (.int .i64 ((rd_T23 l4 x56_3).f0))) (fun _ hk => hk.2) (.int .i64 ((rd_T23 l4 x56_3).f1))) (fun _ hk => hk.2) (.int .i64 ((rd_T23 l4 x56_3).f2))) (fun _ h_ => h_.1))) hb); have n1_ := Aside0.mk (blk_below (g := gb101) (o := .cells #[.int .i64 a0_0, .int .i64 a0_1, .int .i64 a0_2] 23 (0, 0)) (by (with_reducible repeat (first | refine blk_drewN ?_ _ | refine blk_drew ?_ | refine blk_alloc ?_ _)); refine blk_far ?_ NB101_110.out _; (with_reducible repeat (first | refine blk_drewN ?_ _ | refine blk_drew ?_ | refine blk_alloc ?_ _)); refine blk_far ?_ NB101_110.out _; (with_reducible repeat (first | refine blk_drewN ?_ _ | refine blk_drew ?_ | refine blk_alloc ?_ _)); refine blk_far ?_ NB101_110.out _; (with_reducible repeat (first | refine blk_drewN ?_ _ | refine blk_drew ?_ | refine blk_alloc ?_ _)); exact BK101.out) hb); have n2_ := Aside0.mk (blk_below (g := gb102) (o := .cells #[.int .i64 a1_0, .int .i64 a1_1, .int .i64 a1_2] 23 (0, 0)) (by (with_reducible repeat (first | refine blk_drewN ?_ _ | refine blk_drew ?_ | refine blk_alloc ?_ _)); refine blk_far ?_ NB102_110.out _; (with_reducible repeat (first | refine blk_drewN ?_ _ | refine blk_drew ?_ | refine blk_alloc ?_ _)); refine blk_far ?_ NB102_110.out _; (with_reducible repeat (first | refine blk_drewN ?_ _ | refine blk_drew ?_ | refine blk_alloc ?_ _)); refine blk_far ?_ NB102_110.out _; (with_reducible repeat (first | refine blk_drewN ?_ _ | refine blk_drew ?_ | refine blk_alloc ?_ _)); exact BK102.out) hb); have n3_ := Aside0.mk (blk_below (g := gb103) (o := .cells #[.int .i64 a2_0, .int .i64 a2_1] 41 (0, 0)) (by (with_reducible repeat (first | refine blk_drewN ?_ _ | refine blk_drew ?_ | refine blk_alloc ?_ _)); refine blk_far ?_ NB103_110.out _; (with_reducible repeat (first | refine blk_drewN ?_ _ | refine blk_drew ?_ | refine blk_alloc ?_ _)); refine blk_far ?_ NB103_110.out _; (with_reducible repeat (first | refine blk_drewN ?_ _ | refine blk_drew ?_ | refine blk_alloc ?_ _)); refine blk_far ?_ NB103_110.out _; (with_reducible repeat (first | refine blk_drewN ?_ _ | refine blk_drew ?_ | refine blk_alloc ?_ _)); exact BK103.out) hb); have n4_ := Aside0.mk (blk_below (g := gb110) (o := .cells #[.int .i64 ((rd_T23 l4 x56_3).f0), .int .i64 ((rd_T23 l4 x56_3).f1), .int .i64 ((rd_T23 l4 x56_3).f2)] 23 (0, 0)) (by (with_reducible repeat (first | refine blk_drewN ?_ _ | refine blk_drew ?_ | refine blk_alloc ?_ _)); refine blk_put (cs := #[.int .i64 ((rd_T23 l4 x56_3).f0), .int .i64 ((rd_T23 l4 x56_3).f1), .int .i64 0]) ?_ 2 _ rfl; (with_reducible repeat (first | refine blk_drewN ?_ _ | refine blk_drew ?_ | refine blk_alloc ?_ _)); refine blk_put (cs := #[.int .i64 ((rd_T23 l4 x56_3).f0), .int .i64 0, .int .i64 0]) ?_ 1 _ rfl; (with_reducible repeat (first | refine blk_drewN ?_ _ | refine blk_drew ?_ | refine blk_alloc ?_ _)); refine blk_put (cs := #[.int .i64 0, .int .i64 0, .int .i64 0]) ?_ 0 _ rfl; (with_reducible repeat (first | refine blk_drewN ?_ _ | refine blk_drew ?_ | refine blk_alloc ?_ _)); exact BK110.out) hb); have n5_ := Aside0.mk (below_step (BQ) hb); clear HO_16; clear BK101; clear BK102; clear BK103; clear BK110; clear HB; have HO_16 := n0_; have BK101 := n1_; have BK102 := n2_; have BK103 := n3_; have BK110 := n4_; have HB := n5_; clear n0_ n1_ n2_ n3_ n4_ n5_; (try clear hb); (try clear hb2); (try clear hk); (try clear hi)) | ((with_reducible refine gate_builtin (b := .append) (xs := #[.tmp 68, .tmp 70]) rfl ?_); (try (refine gate_guard (by rfl) ?_; dsimp only)); at_builtin; refine Kd.R_append (Kd.int .i64) (w0 := w) w.heap.size rfl (.tmp 68) (.tmp 70) 45 3 (.int .i64 0) 8 rfl Tryd.underlying45 info3 rfl (by decide) (by omega) u16 x16_3 t111 [.int .i64 t111] (fun _ => True) (fun _ => False) rfl rfl ?aP (fun _ hk => hk.elim) ?aF ?aO ?aB ?aS ?aL ?_; (case aP => exact rfl); (case aB => exact (BQ)); (case aF => exact (fun _ _ => trivial)); (case aO => exact (by (with_reducible repeat (first | apply kA | apply kN | apply kD)); exact HO_16.out)); (case aS => exact (below_size (BQ))); (case aL => have := LMc43.out; omega); intro v114 w50 ho hb hg hat; rw [← Ny113.out] at ho; have n0_ := Aside0.mk (blk_grown (g := gb101) (o := .cells #[.int .i64 a0_0, .int .i64 a0_1, .int .i64 a0_2] 23 (0, 0)) ZQ hg (Kd.R_ne HO_16.out BK101.out (by decide))); have n1_ := Aside0.mk (blk_grown (g := gb102) (o := .cells #[.int .i64 a1_0, .int .i64 a1_1, .int .i64 a1_2] 23 (0, 0)) ZQ hg (Kd.R_ne HO_16.out BK102.out (by decide))); have n2_ := Aside0.mk (blk_grown (g := gb103) (o := .cells #[.int .i64 a2_0, .int .i64 a2_1] 41 (0, 0)) ZQ hg (Kd.R_ne HO_16.out BK103.out (by decide))); have n3_ := Aside0.mk (blk_grown (g := gb110) (o := .cells #[.int .i64 ((rd_T23 l4 x56_3).f0), .int .i64 ((rd_T23 l4 x56_3).f1), .int .i64 ((rd_T23 l4 x56_3).f2)] 23 (0, 0)) ZQ hg (Kd.R_ne HO_16.out BK110.out (by decide))); have n4_ := Aside0.mk (hb); have n5_ := Aside0.mk (ho); clear BK101; clear BK102; clear BK103; clear BK110; clear HB; clear HO_16; have BK101 := n0_; have BK102 := n1_; have BK103 := n2_; have BK110 := n3_; have HB := n4_; have HO115 := n5_; clear n0_ n1_ n2_ n3_ n4_ n5_; clear ho hb hg hat))
           go_roundg k3
           case measure => have := HJ5.out; have := HJ27.out; have := HK3.out; omega
           case rel => exact ⟨(y113), (wrap64 (x56_3 + 1)), (by first | rfl | (simp; done) | (simp [*]; done)), H', ⟨by have := HJ5.out; have := HJ27.out; have := HK3.out; omega⟩, ⟨by (with_reducible repeat (first | apply kA | apply kN | apply kD)); exact HO115.out⟩, ⟨by (with_reducible repeat (first | refine blk_drewN ?_ _ | refine blk_drew ?_ | refine blk_alloc ?_ _)); exact BK101.out⟩, ⟨by (with_reducible repeat (first | refine blk_drewN ?_ _ | refine blk_drew ?_ | refine blk_alloc ?_ _)); exact BK102.out⟩, ⟨by (with_reducible repeat (first | refine blk_drewN ?_ _ | refine blk_drew ?_ | refine blk_alloc ?_ _)); exact BK103.out⟩, ⟨BQ⟩⟩
          ·rw [if_neg c42] at H
           have c42b0 : (t112 == 0) = false := beq_eq_false_iff_ne.mpr c42
           have c42b1 : (t112 != 0) = true := bne_iff_ne.mpr c42
           simp only [Option.some.injEq, Prod.mk.injEq] at H
           obtain ⟨rfl, rfl⟩ := H
           have p109 : 0 ≤ (x56_3 : Int) := of_decide_eq_true (by first | (with_reducible assumption) | assumption)
           have q109 : x56_3 < (l4.length : Int) := of_decide_eq_true (by first | (with_reducible assumption) | assumption)
           obtain ⟨ad109, e109, hx109_0, hx109_1, hx109_2⟩ := at_T23 HR4.out x56_3 p109 q109
           cases e109
           replace hx109_0 := (HB.out.cell (World.block_lt_of_cell? w _ hx109_0)).trans hx109_0
           replace hx109_1 := (HB.out.cell (World.block_lt_of_cell? w _ hx109_1)).trans hx109_1
           replace hx109_2 := (HB.out.cell (World.block_lt_of_cell? w _ hx109_2)).trans hx109_2
           replace p109 := eq_true p109
           replace q109 := eq_true q109
           go_wp2_with (first | ((with_reducible refine gate_dst (N := 18) rfl ?_); (try (refine gate_guard (by rfl) ?_; dsimp only)); refine box_event ?hg (N := 18) ?hd (cs := #[.int .i64 0, .int .i64 0, .int .i64 0]) (t := 23) ?hr ?_; (case hd => rfl); (case hg => rfl); (case hr => first | (go_simp; done) | (go_simp; rfl)); intro gb110 hg w51 hbox hb; have n0_ := Aside0.mk (Kd.R_below (by (with_reducible repeat (first | apply kA | apply kN | apply kD)); exact HO_16.out) hb); have n1_ := Aside0.mk (blk_below (g := gb101) (o := .cells #[.int .i64 a0_0, .int .i64 a0_1, .int .i64 a0_2] 23 (0, 0)) ZQ hb); have n2_ := Aside0.mk (blk_below (g := gb102) (o := .cells #[.int .i64 a1_0, .int .i64 a1_1, .int .i64 a1_2] 23 (0, 0)) ZQ hb); have n3_ := Aside0.mk (blk_below (g := gb103) (o := .cells #[.int .i64 a2_0, .int .i64 a2_1] 41 (0, 0)) ZQ hb); have n4_ := Aside0.mk (below_step (BQ) hb); have n5_ := Aside0.mk (hbox); have n6_ := Aside0.mk ((by rw [hg]; exact (below_size (BQ)) : w.heap.size ≤ gb110)); have n7_ := Aside0.mk ((by rw [hg]; exact (below_size (BQ)) : w.heap.size ≤ gb110)); have n8_ := Aside0.mk ((by rw [hg]; exact Nat.ne_of_lt (blk_lt (g := gb101) (o := .cells #[.int .i64 a0_0, .int .i64 a0_1, .int .i64 a0_2] 23 (0, 0)) ZQ) : gb101 ≠ gb110)); have n9_ := Aside0.mk ((by rw [hg]; exact Nat.ne_of_gt (blk_lt (g := gb101) (o := .cells #[.int .i64 a0_0, .int .i64 a0_1, .int .i64 a0_2] 23 (0, 0)) ZQ) : gb110 ≠ gb101)); have n10_ := Aside0.mk ((by rw [hg]; exact Nat.ne_of_lt (blk_lt (g := gb102) (o := .cells #[.int .i64 a1_0, .int .i64 a1_1, .int .i64 a1_2] 23 (0, 0)) ZQ) : gb102 ≠ gb110)); have n11_ := Aside0.mk ((by rw [hg]; exact Nat.ne_of_gt (blk_lt (g := gb102) (o := .cells #[.int .i64 a1_0, .int .i64 a1_1, .int .i64 a1_2] 23 (0, 0)) ZQ) : gb110 ≠ gb102)); have n12_ := Aside0.mk ((by rw [hg]; exact Nat.ne_of_lt (blk_lt (g := gb103) (o := .cells #[.int .i64 a2_0, .int .i64 a2_1] 41 (0, 0)) ZQ) : gb103 ≠ gb110)); have n13_ := Aside0.mk ((by rw [hg]; exact Nat.ne_of_gt (blk_lt (g := gb103) (o := .cells #[.int .i64 a2_0, .int .i64 a2_1] 41 (0, 0)) ZQ) : gb110 ≠ gb103)); clear HO_16; clear BK101; clear BK102; clear BK103; clear HB; have HO_16 := n0_; have BK101 := n1_; have BK102 := n2_; have BK103 := n3_; have HB := n4_; have BK110 := n5_; have GW110 := n6_; have GE110 := n7_; have NB101_110 := n8_; have NB110_101 := n9_; have NB102_110 := n10_; have NB110_102 := n11_; have NB103_110 := n12_; have NB110_103 := n13_; clear n0_ n1_ n2_ n3_ n4_ n5_ n6_ n7_ n8_ n9_ n10_ n11_ n12_ n13_; clear hb hbox hg; have hnb52 := NB110_101.out; have hnc52 := NB101_110.out; have hnb53 := NB110_102.out; have hnc53 := NB102_110.out; have hnb54 := NB110_103.out; have hnc54 := NB103_110.out; have hcz55_0 : w51.cell? ⟨gb110, 0, none⟩ = some (.int .i64 0) := (blk_cell BK110.out 0).trans rfl; have hcz55_1 : w51.cell? ⟨gb110, 1, none⟩ = some (.int .i64 0) := (blk_cell BK110.out 1).trans rfl; have hcz55_2 : w51.cell? ⟨gb110, 2, none⟩ = some (.int .i64 0) := (blk_cell BK110.out 2).trans rfl; have hfz55_0 := blk_frozen BK110.out 0; have hfz55_1 := blk_frozen BK110.out 1; have hfz55_2 := blk_frozen BK110.out 2) | ((with_reducible refine gate_callee (f := 18) rfl ?_); refine goesL_ (some 62) rfl rfl Tryd.func18 (by kernel_rfl) rfl #[.agg #[.int .i64 ((rd_T23 l4 x56_3).f0), .int .i64 ((rd_T23 l4 x56_3).f1), .int .i64 ((rd_T23 l4 x56_3).f2)]] rfl SQ ?_; (with_reducible refine (cal_Day.calls k3 ((rd_T23 l4 x56_3).f0) ((rd_T23 l4 x56_3).f1) ((rd_T23 l4 x56_3).f2) t111 t112 _ A41.out TQ).mono ?_); rintro e w56 ⟨rfl, hb⟩; refine ⟨_, rfl, ?_⟩; have n0_ := Aside0.mk (Kd.R_below (by (with_reducible repeat (first | apply kA | apply kN | apply kD)); exact (Kd.R_mono (Kd.R_far (p := ⟨gb110, 2, none⟩) (Kd.R_far (p := ⟨gb110, 1, none⟩) (Kd.R_far (p := ⟨gb110, 0, none⟩) (Kd.R_types HO_16.out BK110.out (by decide)) (fun _ hk => hk.2) (.int .i64 ((rd_T23 l4 x56_3).f0))) (fun _ hk => hk.2) (.int .i64 ((rd_T23 l4 x56_3).f1))) (fun _ hk => hk.2) (.int .i64 ((rd_T23 l4 x56_3).f2))) (fun _ h_ => h_.1))) hb); have n1_ := Aside0.mk (blk_below (g := gb101) (o := .cells #[.int .i64 a0_0, .int .i64 a0_1, .int .i64 a0_2] 23 (0, 0)) (by (with_reducible repeat (first | refine blk_drewN ?_ _ | refine blk_drew ?_ | refine blk_alloc ?_ _)); refine blk_far ?_ NB101_110.out _; (with_reducible repeat (first | refine blk_drewN ?_ _ | refine blk_drew ?_ | refine blk_alloc ?_ _)); refine blk_far ?_ NB101_110.out _; (with_reducible repeat (first | refine blk_drewN ?_ _ | refine blk_drew ?_ | refine blk_alloc ?_ _)); refine blk_far ?_ NB101_110.out _; (with_reducible repeat (first | refine blk_drewN ?_ _ | refine blk_drew ?_ | refine blk_alloc ?_ _)); exact BK101.out) hb); have n2_ := Aside0.mk (blk_below (g := gb102) (o := .cells #[.int .i64 a1_0, .int .i64 a1_1, .int .i64 a1_2] 23 (0, 0)) (by (with_reducible repeat (first | refine blk_drewN ?_ _ | refine blk_drew ?_ | refine blk_alloc ?_ _)); refine blk_far ?_ NB102_110.out _; (with_reducible repeat (first | refine blk_drewN ?_ _ | refine blk_drew ?_ | refine blk_alloc ?_ _)); refine blk_far ?_ NB102_110.out _; (with_reducible repeat (first | refine blk_drewN ?_ _ | refine blk_drew ?_ | refine blk_alloc ?_ _)); refine blk_far ?_ NB102_110.out _; (with_reducible repeat (first | refine blk_drewN ?_ _ | refine blk_drew ?_ | refine blk_alloc ?_ _)); exact BK102.out) hb); have n3_ := Aside0.mk (blk_below (g := gb103) (o := .cells #[.int .i64 a2_0, .int .i64 a2_1] 41 (0, 0)) (by (with_reducible repeat (first | refine blk_drewN ?_ _ | refine blk_drew ?_ | refine blk_alloc ?_ _)); refine blk_far ?_ NB103_110.out _; (with_reducible repeat (first | refine blk_drewN ?_ _ | refine blk_drew ?_ | refine blk_alloc ?_ _)); refine blk_far ?_ NB103_110.out _; (with_reducible repeat (first | refine blk_drewN ?_ _ | refine blk_drew ?_ | refine blk_alloc ?_ _)); refine blk_far ?_ NB103_110.out _; (with_reducible repeat (first | refine blk_drewN ?_ _ | refine blk_drew ?_ | refine blk_alloc ?_ _)); exact BK103.out) hb); have n4_ := Aside0.mk (blk_below (g := gb110) (o := .cells #[.int .i64 ((rd_T23 l4 x56_3).f0), .int .i64 ((rd_T23 l4 x56_3).f1), .int .i64 ((rd_T23 l4 x56_3).f2)] 23 (0, 0)) (by (with_reducible repeat (first | refine blk_drewN ?_ _ | refine blk_drew ?_ | refine blk_alloc ?_ _)); refine blk_put (cs := #[.int .i64 ((rd_T23 l4 x56_3).f0), .int .i64 ((rd_T23 l4 x56_3).f1), .int .i64 0]) ?_ 2 _ rfl; (with_reducible repeat (first | refine blk_drewN ?_ _ | refine blk_drew ?_ | refine blk_alloc ?_ _)); refine blk_put (cs := #[.int .i64 ((rd_T23 l4 x56_3).f0), .int .i64 0, .int .i64 0]) ?_ 1 _ rfl; (with_reducible repeat (first | refine blk_drewN ?_ _ | refine blk_drew ?_ | refine blk_alloc ?_ _)); refine blk_put (cs := #[.int .i64 0, .int .i64 0, .int .i64 0]) ?_ 0 _ rfl; (with_reducible repeat (first | refine blk_drewN ?_ _ | refine blk_drew ?_ | refine blk_alloc ?_ _)); exact BK110.out) hb); have n5_ := Aside0.mk (below_step (BQ) hb); clear HO_16; clear BK101; clear BK102; clear BK103; clear BK110; clear HB; have HO_16 := n0_; have BK101 := n1_; have BK102 := n2_; have BK103 := n3_; have BK110 := n4_; have HB := n5_; clear n0_ n1_ n2_ n3_ n4_ n5_; (try clear hb); (try clear hb2); (try clear hk); (try clear hi)))
           go_ret2
           exact ⟨_, by first | rfl | (simp [errW_none, errW_some] <;> rfl) | (simp [*, errW_none, errW_some] <;> rfl), by first | exact Kd.R_nil _ _ _ _ _ | exact Kd.N_nil _ _ _ _ _ | exact Kd.V_nil _ _ _ _ _ | exact Kd.Q_nil _ _ _ _ _ | exact Kd.S_nil _ _ _ _ _, BQ⟩
         ·rw [if_neg c38] at H
          have c38b0 : decide (x56_3 < (l4.length : Int)) = false := decide_eq_false c38
          clear c38
          by_cases c57 : t105 > t107
          ·rw [if_pos c57] at H
           have c57b0 : decide (t107 < t105) = true := decide_eq_true c57
           clear c57
           simp only [Option.some.injEq, Prod.mk.injEq] at H
           obtain ⟨rfl, rfl⟩ := H
           go_wp2
           go_ret2
           exact ⟨_, by first | rfl | (simp [errW_none, errW_some] <;> rfl) | (simp [*, errW_none, errW_some] <;> rfl), by first | exact Kd.R_nil _ _ _ _ _ | exact Kd.N_nil _ _ _ _ _ | exact Kd.V_nil _ _ _ _ _ | exact Kd.Q_nil _ _ _ _ _ | exact Kd.S_nil _ _ _ _ _, BQ⟩
          ·rw [if_neg c57] at H
           have c57b0 : decide (t107 < t105) = false := decide_eq_false c57
           clear c57
           have H' := Aside0.mk H
           clear H
           go_wp2
           go_loopg [21, 22] k3 (fun kq v21 v22 w' => ∃ (x21_4 : List Int) (x22_4 : Int), v22 = .int .i64 x22_4 ∧ Aside0 (cal_Schedule.l1 kq a3 t107 x16_3 x21_4 x22_4 a0_0 a0_1 a0_2 a2_0 a2_1 = some (r1, r2)) ∧ Aside0 (kq ≤ k3) ∧ Aside0 (Kd.R (Kd.int .i64) 3 w' w.heap.size (fun k_ => some k_ ≠ (v21 : Value).ownBlock) u16 x16_3) ∧ Aside0 (Kd.R (Kd.int .i64) 3 w' w.heap.size (fun k_ => some k_ ≠ (u16 : Value).ownBlock) v21 x21_4) ∧ Aside0 (w'.heap[gb101]? = some (.cells #[.int .i64 a0_0, .int .i64 a0_1, .int .i64 a0_2] 23 (0, 0))) ∧ Aside0 (w'.heap[gb102]? = some (.cells #[.int .i64 a1_0, .int .i64 a1_1, .int .i64 a1_2] 23 (0, 0))) ∧ Aside0 (w'.heap[gb103]? = some (.cells #[.int .i64 a2_0, .int .i64 a2_1] 41 (0, 0))) ∧ Aside0 (Below w.heap.size w w'))
           case atStart => exact ⟨(([] : List Int)), (0), (by first | rfl | (simp; done) | (simp [*]; done)), H', ⟨Nat.le_refl _⟩, ⟨by (with_reducible repeat (first | apply kA | apply kN | apply kD)); exact Kd.R_mono HO_16.out (fun _ hk => (by simp [Value.ownBlock]))⟩, ⟨by first | exact Kd.R_nil _ _ _ _ _ | exact Kd.N_nil _ _ _ _ _ | exact Kd.V_nil _ _ _ _ _ | exact Kd.Q_nil _ _ _ _ _ | exact Kd.S_nil _ _ _ _ _⟩, ⟨by (with_reducible repeat (first | refine blk_drewN ?_ _ | refine blk_drew ?_ | refine blk_alloc ?_ _)); exact BK101.out⟩, ⟨by (with_reducible repeat (first | refine blk_drewN ?_ _ | refine blk_drew ?_ | refine blk_alloc ?_ _)); exact BK102.out⟩, ⟨by (with_reducible repeat (first | refine blk_drewN ?_ _ | refine blk_drew ?_ | refine blk_alloc ?_ _)); exact BK103.out⟩, ⟨BQ⟩⟩
           case round =>
            clear H'
            try clear c1
            try clear p1
            try clear q1
            try clear hx1
            try clear c2
            try clear p2 p2
            try clear c3
            try clear c4
            try clear c5
            try clear p6
            try clear p10
            try clear q10
            try clear hx10
            try clear c11
            try clear c12
            try clear c12b0
            try clear c13
            try clear c14
            try clear c17
            try clear c18
            try clear c21
            try clear c22
            try clear c25
            try clear c29
            try clear c30
            try clear c33
            try clear c36
            try clear c36b0
            try clear c36b1
            try clear c37
            try clear c38
            try clear c38b0
            try clear c39
            try clear c39b0
            try clear c40
            try clear c40b0
            try clear c42
            try clear c42b0
            try clear c42b1
            try clear c43
            try clear c45
            try clear c46
            try clear c47
            try clear c52
            try clear c53
            try clear c54
            try clear c57
            try clear c57b0
            try clear hcz15_0 hcz15_1
            try clear hcz19_0 hcz19_1
            try clear hcz23_0 hcz23_1
            try clear hcz31_0 hcz31_1 hcz31_2
            try clear hcz34_0 hcz34_1 hcz34_2
            try clear hcz48_0 hcz48_1 hcz48_2
            try clear hcz55_0 hcz55_1 hcz55_2
            try clear hfz15_0 hfz15_1
            try clear hfz19_0 hfz19_1
            try clear hfz23_0 hfz23_1
            try clear hfz31_0 hfz31_1 hfz31_2
            try clear hfz34_0 hfz34_1 hfz34_2
            try clear hfz48_0 hfz48_1 hfz48_2
            try clear hfz55_0 hfz55_1 hfz55_2
            try clear hx109_0 hx109_1 hx109_2
            try clear p109
            try clear q109
            obtain ⟨x21_4, x22_4, rfl, HA, HK4, HO_16, HO_21, BK101, BK102, BK103, HB⟩ := hrel
            cases gk with
            | zero => exact absurd HA.out (by simp [cal_Schedule.l1])
            | succ k4 =>
             have H := HA.out
             clear HA
             simp only [cal_Schedule.l1] at H
             replace H := Option.bind_eq_some_iff.mp H
             obtain ⟨⟨t116, t117, t118, t119⟩, A580, H⟩ := H
             replace H : ((cal_Day.f k4 t116 t117 t118).bind fun bt121 => (if t119 = 0 then (if bt121.2 = 0 then (cal_Schedule.j4 k4 a3 t107 x16_3 x21_4 x22_4 bt121.1 (decide (bt121.1 > t107)) a0_0 a0_1 a0_2 a2_0 a2_1) else (cal_Schedule.j4 k4 a3 t107 x16_3 x21_4 x22_4 bt121.1 true a0_0 a0_1 a0_2 a2_0 a2_1)) else (cal_Schedule.j4 k4 a3 t107 x16_3 x21_4 x22_4 bt121.1 true a0_0 a0_1 a0_2 a2_0 a2_1))) = some (r1, r2) := H
             have A58 := Aside0.mk A580
             clear A580
             replace H := Option.bind_eq_some_iff.mp H
             obtain ⟨⟨t121, t122⟩, A590, H⟩ := H
             replace H : (if t119 = 0 then (if t122 = 0 then (cal_Schedule.j4 k4 a3 t107 x16_3 x21_4 x22_4 t121 (decide (t121 > t107)) a0_0 a0_1 a0_2 a2_0 a2_1) else (cal_Schedule.j4 k4 a3 t107 x16_3 x21_4 x22_4 t121 true a0_0 a0_1 a0_2 a2_0 a2_1)) else (cal_Schedule.j4 k4 a3 t107 x16_3 x21_4 x22_4 t121 true a0_0 a0_1 a0_2 a2_0 a2_1)) = some (r1, r2) := H
             have A59 := Aside0.mk A590
             clear A590
             have HC60 := Aside0.mk H
             clear H
             have hnb61 := NB101_102.out
             have hnc61 := NB102_101.out
             have hnb62 := NB101_103.out
             have hnc62 := NB103_101.out
             have hcz63_0 : wr.cell? ⟨gb101, 0, none⟩ = some (.int .i64 a0_0) := (blk_cell BK101.out 0).trans rfl
             have hcz63_1 : wr.cell? ⟨gb101, 1, none⟩ = some (.int .i64 a0_1) := (blk_cell BK101.out 1).trans rfl
             have hcz63_2 : wr.cell? ⟨gb101, 2, none⟩ = some (.int .i64 a0_2) := (blk_cell BK101.out 2).trans rfl
             have hfz63_0 := blk_frozen BK101.out 0
             have hfz63_1 := blk_frozen BK101.out 1
             have hfz63_2 := blk_frozen BK101.out 2
             have hnb64 := NB103_102.out
             have hnc64 := NB102_103.out
             have hcz65_0 : wr.cell? ⟨gb103, 0, none⟩ = some (.int .i64 a2_0) := (blk_cell BK103.out 0).trans rfl
             have hcz65_1 : wr.cell? ⟨gb103, 1, none⟩ = some (.int .i64 a2_1) := (blk_cell BK103.out 1).trans rfl
             have hfz65_0 := blk_frozen BK103.out 0
             have hfz65_1 := blk_frozen BK103.out 1
             go_upto_region 23 with (first | ((with_reducible refine gate_callee (f := 28) rfl ?_); refine goesL_ (some 82) rfl rfl Tryd.func28 (by kernel_rfl) rfl #[.agg #[.int .i64 a0_0, .int .i64 a0_1, .int .i64 a0_2], .agg #[.int .i64 a2_0, .int .i64 a2_1], .int .i64 x22_4] rfl SQ ?_; (with_reducible refine (cal_Add.calls k4 a0_0 a0_1 a0_2 a2_0 a2_1 x22_4 t116 t117 t118 t119 _ A58.out TQ).mono ?_); rintro e w66 ⟨rfl, hb⟩; refine ⟨_, rfl, ?_⟩; have n0_ := Aside0.mk (Kd.R_below (by (with_reducible repeat (first | apply kA | apply kN | apply kD)); exact HO_16.out) hb); have n1_ := Aside0.mk (Kd.R_below (by (with_reducible repeat (first | apply kA | apply kN | apply kD)); exact HO_21.out) hb); have n2_ := Aside0.mk (blk_below (g := gb101) (o := .cells #[.int .i64 a0_0, .int .i64 a0_1, .int .i64 a0_2] 23 (0, 0)) ZQ hb); have n3_ := Aside0.mk (blk_below (g := gb102) (o := .cells #[.int .i64 a1_0, .int .i64 a1_1, .int .i64 a1_2] 23 (0, 0)) ZQ hb); have n4_ := Aside0.mk (blk_below (g := gb103) (o := .cells #[.int .i64 a2_0, .int .i64 a2_1] 41 (0, 0)) ZQ hb); have n5_ := Aside0.mk (below_step (BQ) hb); clear HO_16; clear HO_21; clear BK101; clear BK102; clear BK103; clear HB; have HO_16 := n0_; have HO_21 := n1_; have BK101 := n2_; have BK102 := n3_; have BK103 := n4_; have HB := n5_; clear n0_ n1_ n2_ n3_ n4_ n5_; (try clear hb); (try clear hb2); (try clear hk); (try clear hi)) | ((with_reducible refine gate_dst (N := 23) rfl ?_); (try (refine gate_guard (by rfl) ?_; dsimp only)); refine box_event ?hg (N := 23) ?hd (cs := #[.int .i64 0, .int .i64 0, .int .i64 0]) (t := 23) ?hr ?_; (case hd => rfl); (case hg => rfl); (case hr => first | (go_simp; done) | (go_simp; rfl)); intro gb120 hg w67 hbox hb; have n0_ := Aside0.mk (Kd.R_below (by (with_reducible repeat (first | apply kA | apply kN | apply kD)); exact HO_16.out) hb); have n1_ := Aside0.mk (Kd.R_below (by (with_reducible repeat (first | apply kA | apply kN | apply kD)); exact HO_21.out) hb); have n2_ := Aside0.mk (blk_below (g := gb101) (o := .cells #[.int .i64 a0_0, .int .i64 a0_1, .int .i64 a0_2] 23 (0, 0)) ZQ hb); have n3_ := Aside0.mk (blk_below (g := gb102) (o := .cells #[.int .i64 a1_0, .int .i64 a1_1, .int .i64 a1_2] 23 (0, 0)) ZQ hb); have n4_ := Aside0.mk (blk_below (g := gb103) (o := .cells #[.int .i64 a2_0, .int .i64 a2_1] 41 (0, 0)) ZQ hb); have n5_ := Aside0.mk (below_step (BQ) hb); have n6_ := Aside0.mk (hbox); have n7_ := Aside0.mk ((by rw [hg]; exact (below_size (BQ)) : w.heap.size ≤ gb120)); have n8_ := Aside0.mk ((by rw [hg]; exact (below_size (BQ)) : w.heap.size ≤ gb120)); have n9_ := Aside0.mk ((by rw [hg]; exact Nat.ne_of_lt (blk_lt (g := gb101) (o := .cells #[.int .i64 a0_0, .int .i64 a0_1, .int .i64 a0_2] 23 (0, 0)) ZQ) : gb101 ≠ gb120)); have n10_ := Aside0.mk ((by rw [hg]; exact Nat.ne_of_gt (blk_lt (g := gb101) (o := .cells #[.int .i64 a0_0, .int .i64 a0_1, .int .i64 a0_2] 23 (0, 0)) ZQ) : gb120 ≠ gb101)); have n11_ := Aside0.mk ((by rw [hg]; exact Nat.ne_of_lt (blk_lt (g := gb102) (o := .cells #[.int .i64 a1_0, .int .i64 a1_1, .int .i64 a1_2] 23 (0, 0)) ZQ) : gb102 ≠ gb120)); have n12_ := Aside0.mk ((by rw [hg]; exact Nat.ne_of_gt (blk_lt (g := gb102) (o := .cells #[.int .i64 a1_0, .int .i64 a1_1, .int .i64 a1_2] 23 (0, 0)) ZQ) : gb120 ≠ gb102)); have n13_ := Aside0.mk ((by rw [hg]; exact Nat.ne_of_lt (blk_lt (g := gb103) (o := .cells #[.int .i64 a2_0, .int .i64 a2_1] 41 (0, 0)) ZQ) : gb103 ≠ gb120)); have n14_ := Aside0.mk ((by rw [hg]; exact Nat.ne_of_gt (blk_lt (g := gb103) (o := .cells #[.int .i64 a2_0, .int .i64 a2_1] 41 (0, 0)) ZQ) : gb120 ≠ gb103)); clear HO_16; clear HO_21; clear BK101; clear BK102; clear BK103; clear HB; have HO_16 := n0_; have HO_21 := n1_; have BK101 := n2_; have BK102 := n3_; have BK103 := n4_; have HB := n5_; have BK120 := n6_; have GW120 := n7_; have GE120 := n8_; have NB101_120 := n9_; have NB120_101 := n10_; have NB102_120 := n11_; have NB120_102 := n12_; have NB103_120 := n13_; have NB120_103 := n14_; clear n0_ n1_ n2_ n3_ n4_ n5_ n6_ n7_ n8_ n9_ n10_ n11_ n12_ n13_ n14_; clear hb hbox hg; have hnb68 := NB120_101.out; have hnc68 := NB101_120.out; have hnb69 := NB120_102.out; have hnc69 := NB102_120.out; have hnb70 := NB120_103.out; have hnc70 := NB103_120.out; have hcz71_0 : w67.cell? ⟨gb120, 0, none⟩ = some (.int .i64 0) := (blk_cell BK120.out 0).trans rfl; have hcz71_1 : w67.cell? ⟨gb120, 1, none⟩ = some (.int .i64 0) := (blk_cell BK120.out 1).trans rfl; have hcz71_2 : w67.cell? ⟨gb120, 2, none⟩ = some (.int .i64 0) := (blk_cell BK120.out 2).trans rfl; have hfz71_0 := blk_frozen BK120.out 0; have hfz71_1 := blk_frozen BK120.out 1; have hfz71_2 := blk_frozen BK120.out 2) | ((with_reducible refine gate_callee (f := 18) rfl ?_); refine goesL_ (some 87) rfl rfl Tryd.func18 (by kernel_rfl) rfl #[.agg #[.int .i64 t116, .int .i64 t117, .int .i64 t118]] rfl SQ ?_; (with_reducible refine (cal_Day.calls k4 t116 t117 t118 t121 t122 _ A59.out TQ).mono ?_); rintro e w72 ⟨rfl, hb⟩; refine ⟨_, rfl, ?_⟩; have n0_ := Aside0.mk (Kd.R_below (by (with_reducible repeat (first | apply kA | apply kN | apply kD)); exact (Kd.R_mono (Kd.R_far (p := ⟨gb120, 2, none⟩) (Kd.R_far (p := ⟨gb120, 1, none⟩) (Kd.R_far (p := ⟨gb120, 0, none⟩) (Kd.R_types HO_16.out BK120.out (by decide)) (fun _ hk => hk.2) (.int .i64 t116)) (fun _ hk => hk.2) (.int .i64 t117)) (fun _ hk => hk.2) (.int .i64 t118)) (fun _ h_ => h_.1))) hb); have n1_ := Aside0.mk (Kd.R_below (by (with_reducible repeat (first | apply kA | apply kN | apply kD)); exact (Kd.R_mono (Kd.R_far (p := ⟨gb120, 2, none⟩) (Kd.R_far (p := ⟨gb120, 1, none⟩) (Kd.R_far (p := ⟨gb120, 0, none⟩) (Kd.R_types HO_21.out BK120.out (by decide)) (fun _ hk => hk.2) (.int .i64 t116)) (fun _ hk => hk.2) (.int .i64 t117)) (fun _ hk => hk.2) (.int .i64 t118)) (fun _ h_ => h_.1))) hb); have n2_ := Aside0.mk (blk_below (g := gb101) (o := .cells #[.int .i64 a0_0, .int .i64 a0_1, .int .i64 a0_2] 23 (0, 0)) (by (with_reducible repeat (first | refine blk_drewN ?_ _ | refine blk_drew ?_ | refine blk_alloc ?_ _)); refine blk_far ?_ NB101_120.out _; (with_reducible repeat (first | refine blk_drewN ?_ _ | refine blk_drew ?_ | refine blk_alloc ?_ _)); refine blk_far ?_ NB101_120.out _; (with_reducible repeat (first | refine blk_drewN ?_ _ | refine blk_drew ?_ | refine blk_alloc ?_ _)); refine blk_far ?_ NB101_120.out _; (with_reducible repeat (first | refine blk_drewN ?_ _ | refine blk_drew ?_ | refine blk_alloc ?_ _)); exact BK101.out) hb); have n3_ := Aside0.mk (blk_below (g := gb102) (o := .cells #[.int .i64 a1_0, .int .i64 a1_1, .int .i64 a1_2] 23 (0, 0)) (by (with_reducible repeat (first | refine blk_drewN ?_ _ | refine blk_drew ?_ | refine blk_alloc ?_ _)); refine blk_far ?_ NB102_120.out _; (with_reducible repeat (first | refine blk_drewN ?_ _ | refine blk_drew ?_ | refine blk_alloc ?_ _)); refine blk_far ?_ NB102_120.out _; (with_reducible repeat (first | refine blk_drewN ?_ _ | refine blk_drew ?_ | refine blk_alloc ?_ _)); refine blk_far ?_ NB102_120.out _; (with_reducible repeat (first | refine blk_drewN ?_ _ | refine blk_drew ?_ | refine blk_alloc ?_ _)); exact BK102.out) hb); have n4_ := Aside0.mk (blk_below (g := gb103) (o := .cells #[.int .i64 a2_0, .int .i64 a2_1] 41 (0, 0)) (by (with_reducible repeat (first | refine blk_drewN ?_ _ | refine blk_drew ?_ | refine blk_alloc ?_ _)); refine blk_far ?_ NB103_120.out _; (with_reducible repeat (first | refine blk_drewN ?_ _ | refine blk_drew ?_ | refine blk_alloc ?_ _)); refine blk_far ?_ NB103_120.out _; (with_reducible repeat (first | refine blk_drewN ?_ _ | refine blk_drew ?_ | refine blk_alloc ?_ _)); refine blk_far ?_ NB103_120.out _; (with_reducible repeat (first | refine blk_drewN ?_ _ | refine blk_drew ?_ | refine blk_alloc ?_ _)); exact BK103.out) hb); have n5_ := Aside0.mk (blk_below (g := gb120) (o := .cells #[.int .i64 t116, .int .i64 t117, .int .i64 t118] 23 (0, 0)) (by (with_reducible repeat (first | refine blk_drewN ?_ _ | refine blk_drew ?_ | refine blk_alloc ?_ _)); refine blk_put (cs := #[.int .i64 t116, .int .i64 t117, .int .i64 0]) ?_ 2 _ rfl; (with_reducible repeat (first | refine blk_drewN ?_ _ | refine blk_drew ?_ | refine blk_alloc ?_ _)); refine blk_put (cs := #[.int .i64 t116, .int .i64 0, .int .i64 0]) ?_ 1 _ rfl; (with_reducible repeat (first | refine blk_drewN ?_ _ | refine blk_drew ?_ | refine blk_alloc ?_ _)); refine blk_put (cs := #[.int .i64 0, .int .i64 0, .int .i64 0]) ?_ 0 _ rfl; (with_reducible repeat (first | refine blk_drewN ?_ _ | refine blk_drew ?_ | refine blk_alloc ?_ _)); exact BK120.out) hb); have n6_ := Aside0.mk (below_step (BQ) hb); clear HO_16; clear HO_21; clear BK101; clear BK102; clear BK103; clear BK120; clear HB; have HO_16 := n0_; have HO_21 := n1_; have BK101 := n2_; have BK102 := n3_; have BK103 := n4_; have BK120 := n5_; have HB := n6_; clear n0_ n1_ n2_ n3_ n4_ n5_ n6_; (try clear hb); (try clear hb2); (try clear hk); (try clear hi)))
             (try simp only [Act.put, List.setIfInBounds_toArray, List.set_cons_zero, List.set_cons_succ])
             go_cut [100] (fun v100 wc => ∃ (kq : Nat) (x100_59 : Bool), v100 = .bool x100_59 ∧ Aside0 (cal_Schedule.j4 kq a3 t107 x16_3 x21_4 x22_4 t121 x100_59 a0_0 a0_1 a0_2 a2_0 a2_1 = some (r1, r2)) ∧ Aside0 (kq ≤ k4) ∧ Aside0 (Kd.R (Kd.int .i64) 3 wc w.heap.size (fun k_ => some k_ ≠ (u21 : Value).ownBlock) u16 x16_3) ∧ Aside0 (Kd.R (Kd.int .i64) 3 wc w.heap.size (fun k_ => some k_ ≠ (u16 : Value).ownBlock) u21 x21_4) ∧ Aside0 (wc.heap[gb101]? = some (.cells #[.int .i64 a0_0, .int .i64 a0_1, .int .i64 a0_2] 23 (0, 0))) ∧ Aside0 (wc.heap[gb102]? = some (.cells #[.int .i64 a1_0, .int .i64 a1_1, .int .i64 a1_2] 23 (0, 0))) ∧ Aside0 (wc.heap[gb103]? = some (.cells #[.int .i64 a2_0, .int .i64 a2_1] 41 (0, 0))) ∧ Aside0 (wc.heap[gb120]? = some (.cells #[.int .i64 t116, .int .i64 t117, .int .i64 t118] 23 (0, 0))) ∧ Aside0 (Below w.heap.size w wc))
             case first =>
              have H := HC60.out
              clear HC60
              by_cases c73 : t119 = 0
              ·rw [if_pos c73] at H
               have c73b0 : (t119 == 0) = true := beq_iff_eq.mpr c73
               have c73b1 : (t119 != 0) = false := bne_eq_false_iff_eq.mpr c73
               clear c73
               (first | rw [c73b0] | (simp only [i64_w, i32_w]; rw [c73b0]) | skip)
               by_cases c74 : t122 = 0
               ·rw [if_pos c74] at H
                have c74b0 : (t122 == 0) = true := beq_iff_eq.mpr c74
                have c74b1 : (t122 != 0) = false := bne_eq_false_iff_eq.mpr c74
                clear c74
                have H' := Aside0.mk H
                clear H
                go_wp2
                go_meet
                case rel => exact ⟨_, (decide (t121 > t107)), (by first | rfl | (simp; done) | (simp [*]; done)), H', ⟨by have := HJ5.out; have := HJ27.out; have := HK3.out; have := HK4.out; first | omega | exact Nat.le_refl _⟩, ⟨by (with_reducible repeat (first | apply kA | apply kN | apply kD)); exact HO_16.out⟩, ⟨by (with_reducible repeat (first | apply kA | apply kN | apply kD)); exact HO_21.out⟩, ⟨by (with_reducible repeat (first | refine blk_drewN ?_ _ | refine blk_drew ?_ | refine blk_alloc ?_ _)); exact BK101.out⟩, ⟨by (with_reducible repeat (first | refine blk_drewN ?_ _ | refine blk_drew ?_ | refine blk_alloc ?_ _)); exact BK102.out⟩, ⟨by (with_reducible repeat (first | refine blk_drewN ?_ _ | refine blk_drew ?_ | refine blk_alloc ?_ _)); exact BK103.out⟩, ⟨by (with_reducible repeat (first | refine blk_drewN ?_ _ | refine blk_drew ?_ | refine blk_alloc ?_ _)); exact BK120.out⟩, ⟨BQ⟩⟩
               ·rw [if_neg c74] at H
                have c74b0 : (t122 == 0) = false := beq_eq_false_iff_ne.mpr c74
                have c74b1 : (t122 != 0) = true := bne_iff_ne.mpr c74
                have H' := Aside0.mk H
                clear H
                go_wp2
                go_meet
                case rel => exact ⟨_, (true), (by first | rfl | (simp; done) | (simp [*]; done)), H', ⟨by have := HJ5.out; have := HJ27.out; have := HK3.out; have := HK4.out; first | omega | exact Nat.le_refl _⟩, ⟨by (with_reducible repeat (first | apply kA | apply kN | apply kD)); exact HO_16.out⟩, ⟨by (with_reducible repeat (first | apply kA | apply kN | apply kD)); exact HO_21.out⟩, ⟨by (with_reducible repeat (first | refine blk_drewN ?_ _ | refine blk_drew ?_ | refine blk_alloc ?_ _)); exact BK101.out⟩, ⟨by (with_reducible repeat (first | refine blk_drewN ?_ _ | refine blk_drew ?_ | refine blk_alloc ?_ _)); exact BK102.out⟩, ⟨by (with_reducible repeat (first | refine blk_drewN ?_ _ | refine blk_drew ?_ | refine blk_alloc ?_ _)); exact BK103.out⟩, ⟨by (with_reducible repeat (first | refine blk_drewN ?_ _ | refine blk_drew ?_ | refine blk_alloc ?_ _)); exact BK120.out⟩, ⟨BQ⟩⟩
              ·rw [if_neg c73] at H
               have c73b0 : (t119 == 0) = false := beq_eq_false_iff_ne.mpr c73
               have c73b1 : (t119 != 0) = true := bne_iff_ne.mpr c73
               (first | rw [c73b0] | (simp only [i64_w, i32_w]; rw [c73b0]) | skip)
               have H' := Aside0.mk H
               clear H
               go_wp2
               go_meet
               case rel => exact ⟨_, (true), (by first | rfl | (simp; done) | (simp [*]; done)), H', ⟨by have := HJ5.out; have := HJ27.out; have := HK3.out; have := HK4.out; first | omega | exact Nat.le_refl _⟩, ⟨by (with_reducible repeat (first | apply kA | apply kN | apply kD)); exact HO_16.out⟩, ⟨by (with_reducible repeat (first | apply kA | apply kN | apply kD)); exact HO_21.out⟩, ⟨by (with_reducible repeat (first | refine blk_drewN ?_ _ | refine blk_drew ?_ | refine blk_alloc ?_ _)); exact BK101.out⟩, ⟨by (with_reducible repeat (first | refine blk_drewN ?_ _ | refine blk_drew ?_ | refine blk_alloc ?_ _)); exact BK102.out⟩, ⟨by (with_reducible repeat (first | refine blk_drewN ?_ _ | refine blk_drew ?_ | refine blk_alloc ?_ _)); exact BK103.out⟩, ⟨by (with_reducible repeat (first | refine blk_drewN ?_ _ | refine blk_drew ?_ | refine blk_alloc ?_ _)); exact BK120.out⟩, ⟨BQ⟩⟩
             case rest =>
              clear HC60
              try clear c1
              try clear p1 p1
              try clear q1 q1
              try clear hx1
              try clear c2
              try clear p2 p2
              try clear c3
              try clear c4
              try clear c5
              try clear c6
              try clear p6 p6
              try clear c7
              try clear p10 p10
              try clear q10 q10
              try clear hx10
              try clear c11
              try clear c12
              try clear c12b0
              try clear c13
              try clear c14
              try clear c17
              try clear c18
              try clear c21
              try clear c22
              try clear c25
              try clear c28
              try clear c29
              try clear c30
              try clear c33
              try clear c36
              try clear c36b0
              try clear c36b1
              try clear c37
              try clear c38
              try clear c38b0
              try clear c39
              try clear c39b0
              try clear c40
              try clear c40b0
              try clear c42
              try clear c42b0
              try clear c42b1
              try clear c43
              try clear c45
              try clear c46
              try clear c47
              try clear c52
              try clear c53
              try clear c54
              try clear c57
              try clear c57b0
              try clear c61
              try clear c62
              try clear c64
              try clear p64
              try clear c68
              try clear c69
              try clear c70
              try clear c73
              try clear c73b0
              try clear c73b1
              try clear c74
              try clear c74b0
              try clear c74b1
              try clear hcz15_0 hcz15_1
              try clear hcz19_0 hcz19_1
              try clear hcz23_0 hcz23_1
              try clear hcz31_0 hcz31_1 hcz31_2
              try clear hcz34_0 hcz34_1 hcz34_2
              try clear hcz48_0 hcz48_1 hcz48_2
              try clear hcz55_0 hcz55_1 hcz55_2
              try clear hcz63_0 hcz63_1 hcz63_2
              try clear hcz65_0 hcz65_1
              try clear hcz71_0 hcz71_1 hcz71_2
              try clear hfz15_0 hfz15_1
              try clear hfz19_0 hfz19_1
              try clear hfz23_0 hfz23_1
              try clear hfz31_0 hfz31_1 hfz31_2
              try clear hfz34_0 hfz34_1 hfz34_2
              try clear hfz48_0 hfz48_1 hfz48_2
              try clear hfz55_0 hfz55_1 hfz55_2
              try clear hfz63_0 hfz63_1 hfz63_2
              try clear hfz65_0 hfz65_1
              try clear hfz71_0 hfz71_1 hfz71_2
              try clear hx109_0 hx109_1 hx109_2
              try clear p109
              try clear q109
              obtain ⟨kq, x100_59, rfl, HA, HJ59, HO_16, HO_21, BK101, BK102, BK103, BK120, HB⟩ := hcut
              cases kq with
              | zero => exact absurd HA.out (by simp [cal_Schedule.j4])
              | succ kj59 =>
               have H := HA.out
               clear HA
               simp only [cal_Schedule.j4] at H
               by_cases c75 : x100_59 = true
               ·subst c75
                have H1 : (some (x21_4, 0)) = some (r1, r2) := by rw [if_pos rfl] at H; exact H
                clear H
                have H := H1
                clear H1
                simp only [Option.some.injEq, Prod.mk.injEq] at H
                obtain ⟨rfl, rfl⟩ := H
                go_wp2
                go_ret2
                exact ⟨_, by first | rfl | (simp [errW_none, errW_some] <;> rfl) | (simp [*, errW_none, errW_some] <;> rfl), by (with_reducible repeat (first | apply kA | apply kN | apply kD)); exact Kd.R_mono HO_21.out (fun _ hk => trivial), BQ⟩
               ·replace c75 := Bool.eq_false_iff.mpr c75
                subst c75
                have H1 : ((cal_Adjust.f kj59 t121 a3 x16_3).bind fun bt123 => (if bt123.2 = 0 then (if (x21_4.length : Int) = 0 then (if x21_4.length < 17592186044416 then (cal_Schedule.l1 kj59 a3 t107 x16_3 (x21_4 ++ [bt123.1]) (wrap64 (x22_4 + 1)) a0_0 a0_1 a0_2 a2_0 a2_1) else (none)) else (if 0 ≤ (wrap64 ((x21_4.length : Int) - 1)) then (if (wrap64 ((x21_4.length : Int) - 1)) < (x21_4.length : Int) then (if bt123.1 > (rd x21_4 (wrap64 ((x21_4.length : Int) - 1))) then (if x21_4.length < 17592186044416 then (cal_Schedule.l1 kj59 a3 t107 x16_3 (x21_4 ++ [bt123.1]) (wrap64 (x22_4 + 1)) a0_0 a0_1 a0_2 a2_0 a2_1) else (none)) else (cal_Schedule.l1 kj59 a3 t107 x16_3 x21_4 (wrap64 (x22_4 + 1)) a0_0 a0_1 a0_2 a2_0 a2_1)) else (none)) else (none))) else (some (([] : List Int), bt123.2)))) = some (r1, r2) := by rw [if_neg (show ¬ (false = true) by decide)] at H; exact H
                clear H
                have H := H1
                clear H1
                replace H := Option.bind_eq_some_iff.mp H
                obtain ⟨⟨t123, t124⟩, A760, H⟩ := H
                replace H : (if t124 = 0 then (if (x21_4.length : Int) = 0 then (if x21_4.length < 17592186044416 then (cal_Schedule.l1 kj59 a3 t107 x16_3 (x21_4 ++ [t123]) (wrap64 (x22_4 + 1)) a0_0 a0_1 a0_2 a2_0 a2_1) else (none)) else (if 0 ≤ (wrap64 ((x21_4.length : Int) - 1)) then (if (wrap64 ((x21_4.length : Int) - 1)) < (x21_4.length : Int) then (if t123 > (rd x21_4 (wrap64 ((x21_4.length : Int) - 1))) then (if x21_4.length < 17592186044416 then (cal_Schedule.l1 kj59 a3 t107 x16_3 (x21_4 ++ [t123]) (wrap64 (x22_4 + 1)) a0_0 a0_1 a0_2 a2_0 a2_1) else (none)) else (cal_Schedule.l1 kj59 a3 t107 x16_3 x21_4 (wrap64 (x22_4 + 1)) a0_0 a0_1 a0_2 a2_0 a2_1)) else (none)) else (none))) else (some (([] : List Int), t124))) = some (r1, r2) := H
                have A76 := Aside0.mk A760
                clear A760
                by_cases c77 : t124 = 0
                ·rw [if_pos c77] at H
                 have c77b0 : (t124 == 0) = true := beq_iff_eq.mpr c77
                 have c77b1 : (t124 != 0) = false := bne_eq_false_iff_eq.mpr c77
                 clear c77
                 by_cases c78 : (x21_4.length : Int) = 0
                 ·rw [if_pos c78] at H
                  have c78b0 : ((x21_4.length : Int) == 0) = true := beq_iff_eq.mpr c78
                  have c78b1 : ((x21_4.length : Int) != 0) = false := bne_eq_false_iff_eq.mpr c78
                  clear c78
                  by_cases c79 : x21_4.length < 17592186044416
                  case neg => rw [if_neg c79] at H; exact absurd H (by simp)
                  rw [if_pos c79] at H
                  have LMc79 := Aside0.mk c79
                  clear c79
                  obtain ⟨y125, hy125⟩ : ∃ y_ : List Int, y_ = (x21_4 ++ [t123]) := ⟨_, rfl⟩
                  replace H : (cal_Schedule.l1 kj59 a3 t107 x16_3 y125 (wrap64 (x22_4 + 1)) a0_0 a0_1 a0_2 a2_0 a2_1) = some (r1, r2) := by first | (rw [hy125]; with_reducible exact H) | (have H2_ := (Option.bind_some _ _).symm.trans H; rw [hy125]; with_reducible exact H2_) | (have H2_ := (Option.bind_some _ _).symm.trans H; with_reducible exact H2_) | with_reducible exact H | (rw [hy125]; exact H) | exact H
                  have Ny125 := Aside0.mk hy125
                  clear hy125
                  have H' := Aside0.mk H
                  clear H
                  obtain ⟨Ao80, co80, eo80⟩ := Kd.R_slice HO_16.out
                  subst eo80
                  go_wp2_with (first | ((with_reducible refine gate_callee (f := 32) rfl ?_); refine goesL_ (some 106) rfl rfl Tryd.func32 (by kernel_rfl) rfl #[.int .i64 t121, .int .i64 a3, .slice Ao80 x16_3.length co80] rfl SQ ?_; (with_reducible refine (cal_Adjust.calls kj59 t121 a3 _ _ x16_3 t123 t124 _ ?side1 ?side2 A76.out TQ).mono ?_); (case side1 => repeat (first | exact (Kd.R_reads' HO_16.out).2.2 | (with_reducible refine Kd.C_alloc ?_ _) | (with_reducible refine Kd.C_drewN ?_ _) | (with_reducible refine Kd.C_drew ?_))); (case side2 => exact (Kd.R_reads' HO_16.out).2.1); rintro e w81 ⟨rfl, hb⟩; refine ⟨_, rfl, ?_⟩; have n0_ := Aside0.mk (Kd.R_below (by (with_reducible repeat (first | apply kA | apply kN | apply kD)); exact HO_16.out) hb); have n1_ := Aside0.mk (Kd.R_below (by (with_reducible repeat (first | apply kA | apply kN | apply kD)); exact HO_21.out) hb); have n2_ := Aside0.mk (blk_below (g := gb101) (o := .cells #[.int .i64 a0_0, .int .i64 a0_1, .int .i64 a0_2] 23 (0, 0)) ZQ hb); have n3_ := Aside0.mk (blk_below (g := gb102) (o := .cells #[.int .i64 a1_0, .int .i64 a1_1, .int .i64 a1_2] 23 (0, 0)) ZQ hb); have n4_ := Aside0.mk (blk_below (g := gb103) (o := .cells #[.int .i64 a2_0, .int .i64 a2_1] 41 (0, 0)) ZQ hb); have n5_ := Aside0.mk (blk_below (g := gb120) (o := .cells #[.int .i64 t116, .int .i64 t117, .int .i64 t118] 23 (0, 0)) ZQ hb); have n6_ := Aside0.mk (below_step (BQ) hb); clear HO_16; clear HO_21; clear BK101; clear BK102; clear BK103; clear BK120; clear HB; have HO_16 := n0_; have HO_21 := n1_; have BK101 := n2_; have BK102 := n3_; have BK103 := n4_; have BK120 := n5_; have HB := n6_; clear n0_ n1_ n2_ n3_ n4_ n5_ n6_; (try clear hb); (try clear hb2); (try clear hk); (try clear hi); obtain ⟨Ao82, co82, eo82⟩ := Kd.R_slice HO_21.out; subst eo82) | ((with_reducible refine gate_builtin (b := .append) (xs := #[.tmp 125, .tmp 127]) rfl ?_); (try (refine gate_guard (by rfl) ?_; dsimp only)); at_builtin; refine Kd.R_append (Kd.int .i64) (w0 := w) w.heap.size rfl (.tmp 125) (.tmp 127) 45 3 (.int .i64 0) 8 rfl Tryd.underlying45 info3 rfl (by decide) (by omega) (.slice Ao82 x21_4.length co82) x21_4 t123 [.int .i64 t123] (fun k_ => some k_ ≠ (.slice Ao80 x16_3.length co80 : Value).ownBlock) (fun _ => False) rfl rfl ?aP (fun _ hk => hk.elim) ?aF ?aO ?aB ?aS ?aL ?_; (case aP => exact rfl); (case aB => exact (BQ)); (case aF => exact (fun k_ hk => Kd.fresh' (Kd.R_lt (by (with_reducible repeat (first | apply kA | apply kN | apply kD)); exact HO_16.out)) k_ hk)); (case aO => exact (by (with_reducible repeat (first | apply kA | apply kN | apply kD)); exact HO_21.out)); (case aS => exact (below_size (BQ))); (case aL => have := LMc79.out; omega); intro v126 w83 ho hb hg hat; rw [← Ny125.out] at ho; have n0_ := Aside0.mk (Kd.R_after (ok := (fun _ => True)) (by (with_reducible repeat (first | apply kA | apply kN | apply kD)); exact Kd.R_mono HO_16.out (fun _ hk => ⟨trivial, hk⟩)) hg hat); have n1_ := Aside0.mk (blk_grown (g := gb101) (o := .cells #[.int .i64 a0_0, .int .i64 a0_1, .int .i64 a0_2] 23 (0, 0)) ZQ hg (Kd.R_ne HO_21.out BK101.out (by decide))); have n2_ := Aside0.mk (blk_grown (g := gb102) (o := .cells #[.int .i64 a1_0, .int .i64 a1_1, .int .i64 a1_2] 23 (0, 0)) ZQ hg (Kd.R_ne HO_21.out BK102.out (by decide))); have n3_ := Aside0.mk (blk_grown (g := gb103) (o := .cells #[.int .i64 a2_0, .int .i64 a2_1] 41 (0, 0)) ZQ hg (Kd.R_ne HO_21.out BK103.out (by decide))); have n4_ := Aside0.mk (blk_grown (g := gb120) (o := .cells #[.int .i64 t116, .int .i64 t117, .int .i64 t118] 23 (0, 0)) ZQ hg (Kd.R_ne HO_21.out BK120.out (by decide))); have n5_ := Aside0.mk (hb); have n6_ := Aside0.mk (ho); clear HO_16; clear BK101; clear BK102; clear BK103; clear BK120; clear HB; clear HO_21; have HO_16 := n0_; have BK101 := n1_; have BK102 := n2_; have BK103 := n3_; have BK120 := n4_; have HB := n5_; have HO127 := n6_; clear n0_ n1_ n2_ n3_ n4_ n5_ n6_; clear ho hb hg hat))
                  go_roundg kj59
                  case measure => have := HJ5.out; have := HJ27.out; have := HK3.out; have := HK4.out; have := HJ59.out; omega
                  case rel => exact ⟨(y125), (wrap64 (x22_4 + 1)), (by first | rfl | (simp; done) | (simp [*]; done)), H', ⟨by have := HJ5.out; have := HJ27.out; have := HK3.out; have := HK4.out; have := HJ59.out; omega⟩, ⟨by (with_reducible repeat (first | apply kA | apply kN | apply kD)); exact Kd.R_mono HO_16.out (fun _ hk => hk.2)⟩, ⟨by (with_reducible repeat (first | apply kA | apply kN | apply kD)); exact HO127.out⟩, ⟨by (with_reducible repeat (first | refine blk_drewN ?_ _ | refine blk_drew ?_ | refine blk_alloc ?_ _)); exact BK101.out⟩, ⟨by (with_reducible repeat (first | refine blk_drewN ?_ _ | refine blk_drew ?_ | refine blk_alloc ?_ _)); exact BK102.out⟩, ⟨by (with_reducible repeat (first | refine blk_drewN ?_ _ | refine blk_drew ?_ | refine blk_alloc ?_ _)); exact BK103.out⟩, ⟨BQ⟩⟩
                 ·rw [if_neg c78] at H
                  have c78b0 : ((x21_4.length : Int) == 0) = false := beq_eq_false_iff_ne.mpr c78
                  have c78b1 : ((x21_4.length : Int) != 0) = true := bne_iff_ne.mpr c78
                  have c78b2 : ¬ (x21_4 = []) := fun h_ => c78 (by rw [h_]; rfl)
                  obtain ⟨ji84, hji84⟩ : ∃ j_ : Int, (wrap64 ((x21_4.length : Int) - 1)) = j_ := ⟨_, rfl⟩
                  replace H : (if 0 ≤ (ji84) then (if (ji84) < (x21_4.length : Int) then (if t123 > (rd x21_4 (ji84)) then (if x21_4.length < 17592186044416 then (cal_Schedule.l1 kj59 a3 t107 x16_3 (x21_4 ++ [t123]) (wrap64 (x22_4 + 1)) a0_0 a0_1 a0_2 a2_0 a2_1) else (none)) else (cal_Schedule.l1 kj59 a3 t107 x16_3 x21_4 (wrap64 (x22_4 + 1)) a0_0 a0_1 a0_2 a2_0 a2_1)) else (none)) else (none)) = some (r1, r2) := by first | (rw [hji84] at H; exact H) | (simp only [hji84] at H ⊢; exact H)
                  (try rw [hji84] at A76)
                  have hji84w : (IntKind.i64.wrap ((x21_4.length : Int) - 1)) = ji84 := (i64_w _).trans hji84
                  by_cases c85 : 0 ≤ (ji84)
                  case neg => rw [if_neg c85] at H; exact absurd H (by simp)
                  rw [if_pos c85] at H
                  have c85b0 : decide (0 ≤ (ji84)) = true := decide_eq_true c85
                  clear c85
                  by_cases c86 : (ji84) < (x21_4.length : Int)
                  case neg => rw [if_neg c86] at H; exact absurd H (by simp)
                  rw [if_pos c86] at H
                  have c86b0 : decide ((ji84) < (x21_4.length : Int)) = true := decide_eq_true c86
                  clear c86
                  by_cases c87 : t123 > (rd x21_4 (ji84))
                  ·rw [if_pos c87] at H
                   have c87b0 : decide ((rd x21_4 (ji84)) < t123) = true := decide_eq_true c87
                   clear c87
                   by_cases c88 : x21_4.length < 17592186044416
                   case neg => rw [if_neg c88] at H; exact absurd H (by simp)
                   rw [if_pos c88] at H
                   have LMc88 := Aside0.mk c88
                   clear c88
                   obtain ⟨y129, hy129⟩ : ∃ y_ : List Int, y_ = (x21_4 ++ [t123]) := ⟨_, rfl⟩
                   replace H : (cal_Schedule.l1 kj59 a3 t107 x16_3 y129 (wrap64 (x22_4 + 1)) a0_0 a0_1 a0_2 a2_0 a2_1) = some (r1, r2) := by first | (rw [hy129]; with_reducible exact H) | (have H2_ := (Option.bind_some _ _).symm.trans H; rw [hy129]; with_reducible exact H2_) | (have H2_ := (Option.bind_some _ _).symm.trans H; with_reducible exact H2_) | with_reducible exact H | (rw [hy129]; exact H) | exact H
                   have Ny129 := Aside0.mk hy129
                   clear hy129
                   have H' := Aside0.mk H
                   clear H
                   obtain ⟨Ao89, co89, eo89⟩ := Kd.R_slice HO_16.out
                   subst eo89
                   go_wp2_with (first | ((with_reducible refine gate_callee (f := 32) rfl ?_); refine goesL_ (some 106) rfl rfl Tryd.func32 (by kernel_rfl) rfl #[.int .i64 t121, .int .i64 a3, .slice Ao89 x16_3.length co89] rfl SQ ?_; (with_reducible refine (cal_Adjust.calls kj59 t121 a3 _ _ x16_3 t123 t124 _ ?side1 ?side2 A76.out TQ).mono ?_); (case side1 => repeat (first | exact (Kd.R_reads' HO_16.out).2.2 | (with_reducible refine Kd.C_alloc ?_ _) | (with_reducible refine Kd.C_drewN ?_ _) | (with_reducible refine Kd.C_drew ?_))); (case side2 => exact (Kd.R_reads' HO_16.out).2.1); rintro e w90 ⟨rfl, hb⟩; refine ⟨_, rfl, ?_⟩; have n0_ := Aside0.mk (Kd.R_below (by (with_reducible repeat (first | apply kA | apply kN | apply kD)); exact HO_16.out) hb); have n1_ := Aside0.mk (Kd.R_below (by (with_reducible repeat (first | apply kA | apply kN | apply kD)); exact HO_21.out) hb); have n2_ := Aside0.mk (blk_below (g := gb101) (o := .cells #[.int .i64 a0_0, .int .i64 a0_1, .int .i64 a0_2] 23 (0, 0)) ZQ hb); have n3_ := Aside0.mk (blk_below (g := gb102) (o := .cells #[.int .i64 a1_0, .int .i64 a1_1, .int .i64 a1_2] 23 (0, 0)) ZQ hb); have n4_ := Aside0.mk (blk_below (g := gb103) (o := .cells #[.int .i64 a2_0, .int .i64 a2_1] 41 (0, 0)) ZQ hb); have n5_ := Aside0.mk (blk_below (g := gb120) (o := .cells #[.int .i64 t116, .int .i64 t117, .int .i64 t118] 23 (0, 0)) ZQ hb); have n6_ := Aside0.mk (below_step (BQ) hb); clear HO_16; clear HO_21; clear BK101; clear BK102; clear BK103; clear BK120; clear HB; have HO_16 := n0_; have HO_21 := n1_; have BK101 := n2_; have BK102 := n3_; have BK103 := n4_; have BK120 := n5_; have HB := n6_; clear n0_ n1_ n2_ n3_ n4_ n5_ n6_; (try clear hb); (try clear hb2); (try clear hk); (try clear hi); obtain ⟨Ao91, co91, eo91⟩ := Kd.R_slice HO_21.out; subst eo91; have p128 : 0 ≤ ((ji84) : Int) := of_decide_eq_true (by first | (with_reducible assumption) | assumption); have q128 : (ji84) < (x21_4.length : Int) := of_decide_eq_true (by first | (with_reducible assumption) | assumption); obtain ⟨ad128, e128, hx128_0⟩ := Kd.at_int (Kd.R_reads' HO_21.out).2.2 (ji84) p128 q128; cases e128; replace p128 := eq_true p128; replace q128 := eq_true q128) | ((with_reducible refine gate_builtin (b := .append) (xs := #[.tmp 125, .tmp 127]) rfl ?_); (try (refine gate_guard (by rfl) ?_; dsimp only)); at_builtin; refine Kd.R_append (Kd.int .i64) (w0 := w) w.heap.size rfl (.tmp 125) (.tmp 127) 45 3 (.int .i64 0) 8 rfl Tryd.underlying45 info3 rfl (by decide) (by omega) (.slice (some ad128) x21_4.length co91) x21_4 t123 [.int .i64 t123] (fun k_ => some k_ ≠ (.slice Ao89 x16_3.length co89 : Value).ownBlock) (fun _ => False) rfl rfl ?aP (fun _ hk => hk.elim) ?aF ?aO ?aB ?aS ?aL ?_; (case aP => exact rfl); (case aB => exact (BQ)); (case aF => exact (fun k_ hk => Kd.fresh' (Kd.R_lt (by (with_reducible repeat (first | apply kA | apply kN | apply kD)); exact HO_16.out)) k_ hk)); (case aO => exact (by (with_reducible repeat (first | apply kA | apply kN | apply kD)); exact HO_21.out)); (case aS => exact (below_size (BQ))); (case aL => have := LMc88.out; omega); intro v130 w92 ho hb hg hat; rw [← Ny129.out] at ho; have n0_ := Aside0.mk (Kd.R_after (ok := (fun _ => True)) (by (with_reducible repeat (first | apply kA | apply kN | apply kD)); exact Kd.R_mono HO_16.out (fun _ hk => ⟨trivial, hk⟩)) hg hat); have n1_ := Aside0.mk (blk_grown (g := gb101) (o := .cells #[.int .i64 a0_0, .int .i64 a0_1, .int .i64 a0_2] 23 (0, 0)) ZQ hg (Kd.R_ne HO_21.out BK101.out (by decide))); have n2_ := Aside0.mk (blk_grown (g := gb102) (o := .cells #[.int .i64 a1_0, .int .i64 a1_1, .int .i64 a1_2] 23 (0, 0)) ZQ hg (Kd.R_ne HO_21.out BK102.out (by decide))); have n3_ := Aside0.mk (blk_grown (g := gb103) (o := .cells #[.int .i64 a2_0, .int .i64 a2_1] 41 (0, 0)) ZQ hg (Kd.R_ne HO_21.out BK103.out (by decide))); have n4_ := Aside0.mk (blk_grown (g := gb120) (o := .cells #[.int .i64 t116, .int .i64 t117, .int .i64 t118] 23 (0, 0)) ZQ hg (Kd.R_ne HO_21.out BK120.out (by decide))); have n5_ := Aside0.mk (hb); have n6_ := Aside0.mk (ho); clear HO_16; clear BK101; clear BK102; clear BK103; clear BK120; clear HB; clear HO_21; have HO_16 := n0_; have BK101 := n1_; have BK102 := n2_; have BK103 := n3_; have BK120 := n4_; have HB := n5_; have HO131 := n6_; clear n0_ n1_ n2_ n3_ n4_ n5_ n6_; clear ho hb hg hat))
                   go_roundg kj59
                   case measure => have := HJ5.out; have := HJ27.out; have := HK3.out; have := HK4.out; have := HJ59.out; omega
                   case rel => exact ⟨(y129), (wrap64 (x22_4 + 1)), (by first | rfl | (simp; done) | (simp [*]; done)), H', ⟨by have := HJ5.out; have := HJ27.out; have := HK3.out; have := HK4.out; have := HJ59.out; omega⟩, ⟨by (with_reducible repeat (first | apply kA | apply kN | apply kD)); exact Kd.R_mono HO_16.out (fun _ hk => hk.2)⟩, ⟨by (with_reducible repeat (first | apply kA | apply kN | apply kD)); exact HO131.out⟩, ⟨by (with_reducible repeat (first | refine blk_drewN ?_ _ | refine blk_drew ?_ | refine blk_alloc ?_ _)); exact BK101.out⟩, ⟨by (with_reducible repeat (first | refine blk_drewN ?_ _ | refine blk_drew ?_ | refine blk_alloc ?_ _)); exact BK102.out⟩, ⟨by (with_reducible repeat (first | refine blk_drewN ?_ _ | refine blk_drew ?_ | refine blk_alloc ?_ _)); exact BK103.out⟩, ⟨BQ⟩⟩
                  ·rw [if_neg c87] at H
                   have c87b0 : decide ((rd x21_4 (ji84)) < t123) = false := decide_eq_false c87
                   clear c87
                   have H' := Aside0.mk H
                   clear H
                   obtain ⟨Ao93, co93, eo93⟩ := Kd.R_slice HO_16.out
                   subst eo93
                   go_wp2_with (first | ((with_reducible refine gate_callee (f := 32) rfl ?_); refine goesL_ (some 106) rfl rfl Tryd.func32 (by kernel_rfl) rfl #[.int .i64 t121, .int .i64 a3, .slice Ao93 x16_3.length co93] rfl SQ ?_; (with_reducible refine (cal_Adjust.calls kj59 t121 a3 _ _ x16_3 t123 t124 _ ?side1 ?side2 A76.out TQ).mono ?_); (case side1 => repeat (first | exact (Kd.R_reads' HO_16.out).2.2 | (with_reducible refine Kd.C_alloc ?_ _) | (with_reducible refine Kd.C_drewN ?_ _) | (with_reducible refine Kd.C_drew ?_))); (case side2 => exact (Kd.R_reads' HO_16.out).2.1); rintro e w94 ⟨rfl, hb⟩; refine ⟨_, rfl, ?_⟩; have n0_ := Aside0.mk (Kd.R_below (by (with_reducible repeat (first | apply kA | apply kN | apply kD)); exact HO_16.out) hb); have n1_ := Aside0.mk (Kd.R_below (by (with_reducible repeat (first | apply kA | apply kN | apply kD)); exact HO_21.out) hb); have n2_ := Aside0.mk (blk_below (g := gb101) (o := .cells #[.int .i64 a0_0, .int .i64 a0_1, .int .i64 a0_2] 23 (0, 0)) ZQ hb); have n3_ := Aside0.mk (blk_below (g := gb102) (o := .cells #[.int .i64 a1_0, .int .i64 a1_1, .int .i64 a1_2] 23 (0, 0)) ZQ hb); have n4_ := Aside0.mk (blk_below (g := gb103) (o := .cells #[.int .i64 a2_0, .int .i64 a2_1] 41 (0, 0)) ZQ hb); have n5_ := Aside0.mk (blk_below (g := gb120) (o := .cells #[.int .i64 t116, .int .i64 t117, .int .i64 t118] 23 (0, 0)) ZQ hb); have n6_ := Aside0.mk (below_step (BQ) hb); clear HO_16; clear HO_21; clear BK101; clear BK102; clear BK103; clear BK120; clear HB; have HO_16 := n0_; have HO_21 := n1_; have BK101 := n2_; have BK102 := n3_; have BK103 := n4_; have BK120 := n5_; have HB := n6_; clear n0_ n1_ n2_ n3_ n4_ n5_ n6_; (try clear hb); (try clear hb2); (try clear hk); (try clear hi); obtain ⟨Ao95, co95, eo95⟩ := Kd.R_slice HO_21.out; subst eo95; have p128 : 0 ≤ ((ji84) : Int) := of_decide_eq_true (by first | (with_reducible assumption) | assumption); have q128 : (ji84) < (x21_4.length : Int) := of_decide_eq_true (by first | (with_reducible assumption) | assumption); obtain ⟨ad128, e128, hx128_0⟩ := Kd.at_int (Kd.R_reads' HO_21.out).2.2 (ji84) p128 q128; cases e128; replace p128 := eq_true p128; replace q128 := eq_true q128))
                   go_roundg kj59
                   case measure => have := HJ5.out; have := HJ27.out; have := HK3.out; have := HK4.out; have := HJ59.out; omega
                   case rel => exact ⟨(x21_4), (wrap64 (x22_4 + 1)), (by first | rfl | (simp; done) | (simp [*]; done)), H', ⟨by have := HJ5.out; have := HJ27.out; have := HK3.out; have := HK4.out; have := HJ59.out; omega⟩, ⟨by (with_reducible repeat (first | apply kA | apply kN | apply kD)); exact HO_16.out⟩, ⟨by (with_reducible repeat (first | apply kA | apply kN | apply kD)); exact HO_21.out⟩, ⟨by (with_reducible repeat (first | refine blk_drewN ?_ _ | refine blk_drew ?_ | refine blk_alloc ?_ _)); exact BK101.out⟩, ⟨by (with_reducible repeat (first | refine blk_drewN ?_ _ | refine blk_drew ?_ | refine blk_alloc ?_ _)); exact BK102.out⟩, ⟨by (with_reducible repeat (first | refine blk_drewN ?_ _ | refine blk_drew ?_ | refine blk_alloc ?_ _)); exact BK103.out⟩, ⟨BQ⟩⟩
                ·rw [if_neg c77] at H
                 have c77b0 : (t124 == 0) = false := beq_eq_false_iff_ne.mpr c77
                 have c77b1 : (t124 != 0) = true := bne_iff_ne.mpr c77
                 simp only [Option.some.injEq, Prod.mk.injEq] at H
                 obtain ⟨rfl, rfl⟩ := H
                 obtain ⟨Ao96, co96, eo96⟩ := Kd.R_slice HO_16.out
                 subst eo96
                 go_wp2_with (first | ((with_reducible refine gate_callee (f := 32) rfl ?_); refine goesL_ (some 106) rfl rfl Tryd.func32 (by kernel_rfl) rfl #[.int .i64 t121, .int .i64 a3, .slice Ao96 x16_3.length co96] rfl SQ ?_; (with_reducible refine (cal_Adjust.calls kj59 t121 a3 _ _ x16_3 t123 t124 _ ?side1 ?side2 A76.out TQ).mono ?_); (case side1 => repeat (first | exact (Kd.R_reads' HO_16.out).2.2 | (with_reducible refine Kd.C_alloc ?_ _) | (with_reducible refine Kd.C_drewN ?_ _) | (with_reducible refine Kd.C_drew ?_))); (case side2 => exact (Kd.R_reads' HO_16.out).2.1); rintro e w97 ⟨rfl, hb⟩; refine ⟨_, rfl, ?_⟩; have n0_ := Aside0.mk (Kd.R_below (by (with_reducible repeat (first | apply kA | apply kN | apply kD)); exact HO_16.out) hb); have n1_ := Aside0.mk (Kd.R_below (by (with_reducible repeat (first | apply kA | apply kN | apply kD)); exact HO_21.out) hb); have n2_ := Aside0.mk (blk_below (g := gb101) (o := .cells #[.int .i64 a0_0, .int .i64 a0_1, .int .i64 a0_2] 23 (0, 0)) ZQ hb); have n3_ := Aside0.mk (blk_below (g := gb102) (o := .cells #[.int .i64 a1_0, .int .i64 a1_1, .int .i64 a1_2] 23 (0, 0)) ZQ hb); have n4_ := Aside0.mk (blk_below (g := gb103) (o := .cells #[.int .i64 a2_0, .int .i64 a2_1] 41 (0, 0)) ZQ hb); have n5_ := Aside0.mk (blk_below (g := gb120) (o := .cells #[.int .i64 t116, .int .i64 t117, .int .i64 t118] 23 (0, 0)) ZQ hb); have n6_ := Aside0.mk (below_step (BQ) hb); clear HO_16; clear HO_21; clear BK101; clear BK102; clear BK103; clear BK120; clear HB; have HO_16 := n0_; have HO_21 := n1_; have BK101 := n2_; have BK102 := n3_; have BK103 := n4_; have BK120 := n5_; have HB := n6_; clear n0_ n1_ n2_ n3_ n4_ n5_ n6_; (try clear hb); (try clear hb2); (try clear hk); (try clear hi)))
                 go_ret2
                 exact ⟨_, by first | rfl | (simp [errW_none, errW_some] <;> rfl) | (simp [*, errW_none, errW_some] <;> rfl), by first | exact Kd.R_nil _ _ _ _ _ | exact Kd.N_nil _ _ _ _ _ | exact Kd.V_nil _ _ _ _ _ | exact Kd.Q_nil _ _ _ _ _ | exact Kd.S_nil _ _ _ _ _, BQ⟩

end Go.Proofs.YtdebllinaffceaaDoor.M
