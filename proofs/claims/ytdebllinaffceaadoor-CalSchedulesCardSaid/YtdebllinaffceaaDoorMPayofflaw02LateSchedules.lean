import Derived.Test.YtdebllinaffceaaDoorVWords
import Derived.Test.YtdebllinaffceaaDoorMx0
import Derived.Test.YtdebllinaffceaaDoorMCalLength
import Derived.Test.YtdebllinaffceaaDoorHandLate
import Derived.Test.YtdebllinaffceaaDoorMPayofflaw02SameInts
import Derived.Test.YtdebllinaffceaaDoorMPayofflaw02OwnDates
import Derived.Test.YtdebllinaffceaaDoorMPayoffref02Schedule
import Derived.Test.YtdebllinaffceaaDoorMCalSchedule
namespace Go.Proofs.YtdebllinaffceaaDoor.M
open Go.RowKit Go.Proofs.YtdebllinaffceaaDoorW.PrintWords Go.Proofs.YtdebllinaffceaaDoorW.PrintLast Go.Proofs.YtdebllinaffceaaDoorW.PrintMore
attribute [local go_sem] max2_int min2_int max_two min_two max_three min_three max_four min_four   -- for this text's walks alone
set_option linter.unusedVariables false
set_option linter.unusedSimpArgs false

/-! ### payofflaw02_lateSchedules: function 38 -/
def payofflaw02_lateSchedules.f (k : Nat) (a0_0 : Int) (a0_1 : Int) (a0_2 : Int) (a0_3 : Int) (a0_4 : Int) (a0_5 : Int) (a0_6 : Int) (a0_7 : Int) (a0_8 : Int) (l0_9 : List (S23)) (l1 : List Int) : Option (Bool) := (payoffref02_Schedule.f k a0_0 a0_1 a0_2 a0_3 a0_4 a0_5 a0_6 a0_7 0 ([] : List (S23))).bind fun bt102 => ((payofflaw02_ownDates.f k l0_9).bind fun t106 => ((cal_Schedule.f k a0_0 a0_1 a0_2 a0_3 a0_4 a0_5 a0_6 a0_7 a0_8 t106).bind fun bt109 => ((cal_Schedule.f k a0_0 a0_1 a0_2 a0_3 a0_4 a0_5 a0_6 a0_7 0 ([] : List (S23))).bind fun bt113 => ((payofflaw02_ownDates.f k l0_9).bind fun t117 => ((cal_Schedule.f k a0_0 a0_1 a0_2 a0_3 a0_4 a0_5 a0_6 a0_7 a0_8 t117).bind fun bt120 => ((payofflaw02_sameInts.f k bt109.1 l1).bind fun t124 => (if t124 = true then ((payofflaw02_sameInts.f k bt113.1 bt102.1).bind fun t125 => (if t125 = true then ((payofflaw02_sameInts.f k bt120.1 l1).bind fun t126 => (if t126 = true then (if bt109.1.length < 1000000 then (if bt113.1.length < 1000000 then (if bt120.1.length < 1000000 then (some true) else (none)) else (none)) else (none)) else (none))) else (none))) else (none))))))))
def payofflaw02_lateSchedules.T2 : Bool × List (List Nat × List Nat) := (true, [([], []), ([0], [0]), ([], []), ([2], [2]), ([], []), ([4], [4]), ([], []), ([6], [6]), ([], []), ([8], [8]), ([9], [9]), ([1, 3, 5, 7, 10, 10], [1, 3, 5, 7, 10]), ([11], [11]), ([12], [12]), ([12], [12]), ([13, 11, 0, 1, 2, 3, 4, 5, 6, 7, 8, 9, 10, 11, 12, 13], [13]), ([14, 15, 0, 1, 2, 3, 4, 5, 6, 7, 8, 9, 10, 11, 12, 13, 14, 15], [14])])
def payofflaw02_lateSchedules.B2 : List Nat := [0, 1, 0, 4, 0, 16, 0, 64, 0, 256, 768, 2047, 4095, 8191, 8191, 16383, 65535]
theorem payofflaw02_lateSchedules.tab2 : rtab .any (opsOf Tryd.f38 2) = payofflaw02_lateSchedules.T2 := by kernel_rfl
theorem payofflaw02_lateSchedules.bits2 : waitsOk payofflaw02_lateSchedules.T2.2 payofflaw02_lateSchedules.B2 = true := by kernel_rfl
def payofflaw02_lateSchedules.T4 : Bool × List (List Nat × List Nat) := (true, [([], []), ([0], [0]), ([], []), ([2], [2]), ([], []), ([4], [4]), ([], []), ([6], [6]), ([], []), ([8], [8]), ([9], [9]), ([1, 3, 5, 7, 10, 10], [1, 3, 5, 7, 10]), ([11], [11]), ([12], [12]), ([12], [12]), ([13, 11, 0, 1, 2, 3, 4, 5, 6, 7, 8, 9, 10, 11, 12, 13], [13]), ([14, 15, 0, 1, 2, 3, 4, 5, 6, 7, 8, 9, 10, 11, 12, 13, 14, 15], [14])])
def payofflaw02_lateSchedules.B4 : List Nat := [0, 1, 0, 4, 0, 16, 0, 64, 0, 256, 768, 2047, 4095, 8191, 8191, 16383, 65535]
theorem payofflaw02_lateSchedules.tab4 : rtab .any (opsOf Tryd.f38 4) = payofflaw02_lateSchedules.T4 := by kernel_rfl
theorem payofflaw02_lateSchedules.bits4 : waitsOk payofflaw02_lateSchedules.T4.2 payofflaw02_lateSchedules.B4 = true := by kernel_rfl
set_option maxHeartbeats 8000000 in
set_option maxRecDepth 100000 in
theorem payofflaw02_lateSchedules.calls (k : Nat) (a0_0 : Int) (a0_1 : Int) (a0_2 : Int) (a0_3 : Int) (a0_4 : Int) (a0_5 : Int) (a0_6 : Int) (a0_7 : Int) (a0_8 : Int) (A0_9 : Option Addr) (c0_9 : Nat) (l0_9 : List (S23)) (A1 : Option Addr) (c1 : Nat) (l1 : List Int) (r : Bool) (w : World) (hr0_9 : Kd.C k23 w A0_9 l0_9.length l0_9) (hc0_9 : l0_9.length ≤ c0_9) (hr1 : Kd.C (Kd.int .i64) w A1 l1.length l1) (hc1 : l1.length ≤ c1) (h : payofflaw02_lateSchedules.f k a0_0 a0_1 a0_2 a0_3 a0_4 a0_5 a0_6 a0_7 a0_8 l0_9 l1 = some r) (G0 : TabW w) :
  Calls Tryd.prog 38 #[.agg #[.int .i64 a0_0, .int .i64 a0_1, .int .i64 a0_2, .int .i64 a0_3, .int .i64 a0_4, .int .i64 a0_5, .int .i64 a0_6, .int .i64 a0_7, .int .i64 a0_8, .slice A0_9 l0_9.length c0_9], .slice A1 l1.length c1] w fun e w' => e = .returned (.bool r) ∧ Below w.heap.size w w' := by
 have GT := Aside0.mk G0
 clear G0
 have hu53 := Tryd.underlying53
 have hu23 := Tryd.underlying23
 have hu41 := Tryd.underlying41
 have HR0_9 := Aside0.mk hr0_9
 have HC0_9 := Aside0.mk hc0_9
 clear hr0_9 hc0_9
 have HR1 := Aside0.mk hr1
 have HC1 := Aside0.mk hc1
 clear hr1 hc1
 have HB := Aside0.mk (Below.refl w.heap.size w)
 have H : ((payoffref02_Schedule.f k a0_0 a0_1 a0_2 a0_3 a0_4 a0_5 a0_6 a0_7 0 ([] : List (S23))).bind fun bt102 => ((payofflaw02_ownDates.f k l0_9).bind fun t106 => ((cal_Schedule.f k a0_0 a0_1 a0_2 a0_3 a0_4 a0_5 a0_6 a0_7 a0_8 t106).bind fun bt109 => ((cal_Schedule.f k a0_0 a0_1 a0_2 a0_3 a0_4 a0_5 a0_6 a0_7 0 ([] : List (S23))).bind fun bt113 => ((payofflaw02_ownDates.f k l0_9).bind fun t117 => ((cal_Schedule.f k a0_0 a0_1 a0_2 a0_3 a0_4 a0_5 a0_6 a0_7 a0_8 t117).bind fun bt120 => ((payofflaw02_sameInts.f k bt109.1 l1).bind fun t124 => (if t124 = true then ((payofflaw02_sameInts.f k bt113.1 bt102.1).bind fun t125 => (if t125 = true then ((payofflaw02_sameInts.f k bt120.1 l1).bind fun t126 => (if t126 = true then (if bt109.1.length < 1000000 then (if bt113.1.length < 1000000 then (if bt120.1.length < 1000000 then (some true) else (none)) else (none)) else (none)) else (none))) else (none))) else (none))))))))) = some r := h
 clear h
 replace H := Option.bind_eq_some_iff.mp H
 obtain ⟨⟨t102, t105⟩, A30, H⟩ := H
 replace H : ((payofflaw02_ownDates.f k l0_9).bind fun t106 => ((cal_Schedule.f k a0_0 a0_1 a0_2 a0_3 a0_4 a0_5 a0_6 a0_7 a0_8 t106).bind fun bt109 => ((cal_Schedule.f k a0_0 a0_1 a0_2 a0_3 a0_4 a0_5 a0_6 a0_7 0 ([] : List (S23))).bind fun bt113 => ((payofflaw02_ownDates.f k l0_9).bind fun t117 => ((cal_Schedule.f k a0_0 a0_1 a0_2 a0_3 a0_4 a0_5 a0_6 a0_7 a0_8 t117).bind fun bt120 => ((payofflaw02_sameInts.f k bt109.1 l1).bind fun t124 => (if t124 = true then ((payofflaw02_sameInts.f k bt113.1 t102).bind fun t125 => (if t125 = true then ((payofflaw02_sameInts.f k bt120.1 l1).bind fun t126 => (if t126 = true then (if bt109.1.length < 1000000 then (if bt113.1.length < 1000000 then (if bt120.1.length < 1000000 then (some true) else (none)) else (none)) else (none)) else (none))) else (none))) else (none)))))))) = some r := H
 have A3 := Aside0.mk A30
 clear A30
 replace H := Option.bind_eq_some_iff.mp H
 obtain ⟨t106, A40, H⟩ := H
 replace H : ((cal_Schedule.f k a0_0 a0_1 a0_2 a0_3 a0_4 a0_5 a0_6 a0_7 a0_8 t106).bind fun bt109 => ((cal_Schedule.f k a0_0 a0_1 a0_2 a0_3 a0_4 a0_5 a0_6 a0_7 0 ([] : List (S23))).bind fun bt113 => ((payofflaw02_ownDates.f k l0_9).bind fun t117 => ((cal_Schedule.f k a0_0 a0_1 a0_2 a0_3 a0_4 a0_5 a0_6 a0_7 a0_8 t117).bind fun bt120 => ((payofflaw02_sameInts.f k bt109.1 l1).bind fun t124 => (if t124 = true then ((payofflaw02_sameInts.f k bt113.1 t102).bind fun t125 => (if t125 = true then ((payofflaw02_sameInts.f k bt120.1 l1).bind fun t126 => (if t126 = true then (if bt109.1.length < 1000000 then (if bt113.1.length < 1000000 then (if bt120.1.length < 1000000 then (some true) else (none)) else (none)) else (none)) else (none))) else (none))) else (none))))))) = some r := H
 have A4 := Aside0.mk A40
 clear A40
 replace H := Option.bind_eq_some_iff.mp H
 obtain ⟨⟨t109, t112⟩, A50, H⟩ := H
 replace H : ((cal_Schedule.f k a0_0 a0_1 a0_2 a0_3 a0_4 a0_5 a0_6 a0_7 0 ([] : List (S23))).bind fun bt113 => ((payofflaw02_ownDates.f k l0_9).bind fun t117 => ((cal_Schedule.f k a0_0 a0_1 a0_2 a0_3 a0_4 a0_5 a0_6 a0_7 a0_8 t117).bind fun bt120 => ((payofflaw02_sameInts.f k t109 l1).bind fun t124 => (if t124 = true then ((payofflaw02_sameInts.f k bt113.1 t102).bind fun t125 => (if t125 = true then ((payofflaw02_sameInts.f k bt120.1 l1).bind fun t126 => (if t126 = true then (if t109.length < 1000000 then (if bt113.1.length < 1000000 then (if bt120.1.length < 1000000 then (some true) else (none)) else (none)) else (none)) else (none))) else (none))) else (none)))))) = some r := H
 have A5 := Aside0.mk A50
 clear A50
 replace H := Option.bind_eq_some_iff.mp H
 obtain ⟨⟨t113, t116⟩, A60, H⟩ := H
 replace H : ((payofflaw02_ownDates.f k l0_9).bind fun t117 => ((cal_Schedule.f k a0_0 a0_1 a0_2 a0_3 a0_4 a0_5 a0_6 a0_7 a0_8 t117).bind fun bt120 => ((payofflaw02_sameInts.f k t109 l1).bind fun t124 => (if t124 = true then ((payofflaw02_sameInts.f k t113 t102).bind fun t125 => (if t125 = true then ((payofflaw02_sameInts.f k bt120.1 l1).bind fun t126 => (if t126 = true then (if t109.length < 1000000 then (if t113.length < 1000000 then (if bt120.1.length < 1000000 then (some true) else (none)) else (none)) else (none)) else (none))) else (none))) else (none))))) = some r := H
 have A6 := Aside0.mk A60
 clear A60
 replace H := Option.bind_eq_some_iff.mp H
 obtain ⟨t117, A70, H⟩ := H
 replace H : ((cal_Schedule.f k a0_0 a0_1 a0_2 a0_3 a0_4 a0_5 a0_6 a0_7 a0_8 t117).bind fun bt120 => ((payofflaw02_sameInts.f k t109 l1).bind fun t124 => (if t124 = true then ((payofflaw02_sameInts.f k t113 t102).bind fun t125 => (if t125 = true then ((payofflaw02_sameInts.f k bt120.1 l1).bind fun t126 => (if t126 = true then (if t109.length < 1000000 then (if t113.length < 1000000 then (if bt120.1.length < 1000000 then (some true) else (none)) else (none)) else (none)) else (none))) else (none))) else (none)))) = some r := H
 have A7 := Aside0.mk A70
 clear A70
 replace H := Option.bind_eq_some_iff.mp H
 obtain ⟨⟨t120, t123⟩, A80, H⟩ := H
 replace H : ((payofflaw02_sameInts.f k t109 l1).bind fun t124 => (if t124 = true then ((payofflaw02_sameInts.f k t113 t102).bind fun t125 => (if t125 = true then ((payofflaw02_sameInts.f k t120 l1).bind fun t126 => (if t126 = true then (if t109.length < 1000000 then (if t113.length < 1000000 then (if t120.length < 1000000 then (some true) else (none)) else (none)) else (none)) else (none))) else (none))) else (none))) = some r := H
 have A8 := Aside0.mk A80
 clear A80
 replace H := Option.bind_eq_some_iff.mp H
 obtain ⟨t124, A90, H⟩ := H
 replace H : (if t124 = true then ((payofflaw02_sameInts.f k t113 t102).bind fun t125 => (if t125 = true then ((payofflaw02_sameInts.f k t120 l1).bind fun t126 => (if t126 = true then (if t109.length < 1000000 then (if t113.length < 1000000 then (if t120.length < 1000000 then (some true) else (none)) else (none)) else (none)) else (none))) else (none))) else (none)) = some r := H
 have A9 := Aside0.mk A90
 clear A90
 by_cases c10 : t124 = true
 ·subst c10
  have H1 : ((payofflaw02_sameInts.f k t113 t102).bind fun t125 => (if t125 = true then ((payofflaw02_sameInts.f k t120 l1).bind fun t126 => (if t126 = true then (if t109.length < 1000000 then (if t113.length < 1000000 then (if t120.length < 1000000 then (some true) else (none)) else (none)) else (none)) else (none))) else (none))) = some r := by rw [if_pos rfl] at H; exact H
  clear H
  have H := H1
  clear H1
  replace H := Option.bind_eq_some_iff.mp H
  obtain ⟨t125, A110, H⟩ := H
  replace H : (if t125 = true then ((payofflaw02_sameInts.f k t120 l1).bind fun t126 => (if t126 = true then (if t109.length < 1000000 then (if t113.length < 1000000 then (if t120.length < 1000000 then (some true) else (none)) else (none)) else (none)) else (none))) else (none)) = some r := H
  have A11 := Aside0.mk A110
  clear A110
  by_cases c12 : t125 = true
  ·subst c12
   have H1 : ((payofflaw02_sameInts.f k t120 l1).bind fun t126 => (if t126 = true then (if t109.length < 1000000 then (if t113.length < 1000000 then (if t120.length < 1000000 then (some true) else (none)) else (none)) else (none)) else (none))) = some r := by rw [if_pos rfl] at H; exact H
   clear H
   have H := H1
   clear H1
   replace H := Option.bind_eq_some_iff.mp H
   obtain ⟨t126, A130, H⟩ := H
   replace H : (if t126 = true then (if t109.length < 1000000 then (if t113.length < 1000000 then (if t120.length < 1000000 then (some true) else (none)) else (none)) else (none)) else (none)) = some r := H
   have A13 := Aside0.mk A130
   clear A130
   by_cases c14 : t126 = true
   ·subst c14
    have H1 : (if t109.length < 1000000 then (if t113.length < 1000000 then (if t120.length < 1000000 then (some true) else (none)) else (none)) else (none)) = some r := by rw [if_pos rfl] at H; exact H
    clear H
    have H := H1
    clear H1
    by_cases hb1 : t109.length < 1000000
    case neg => rw [if_neg hb1] at H; exact absurd H (by simp)
    rw [if_pos hb1] at H
    by_cases hb2 : t113.length < 1000000
    case neg => rw [if_neg hb2] at H; exact absurd H (by simp)
    rw [if_pos hb2] at H
    by_cases hb3 : t120.length < 1000000
    case neg => rw [if_neg hb3] at H; exact absurd H (by simp)
    rw [if_pos hb3] at H
    obtain rfl := Option.some.inj H
    have HBN := Aside0.mk (And.intro hb1 (And.intro hb2 hb3))
    clear hb1 hb2 hb3
    go_enter Tryd.func38, Tryd.ntmps38
    try go_wp2_with (first | ((with_reducible refine gate_dst (N := 2) rfl ?_); refine box_event ?hg (N := 2) ?hd (cs := #[.int .i64 a0_0, .int .i64 a0_1, .int .i64 a0_2, .int .i64 a0_3, .int .i64 a0_4, .int .i64 a0_5, .int .i64 a0_6, .int .i64 a0_7, .int .i64 a0_8, .slice A0_9 l0_9.length c0_9]) (t := 53) ?hr ?_; (case hd => rfl); (case hg => rfl); (case hr => first | (go_simp; done) | (go_simp; rfl)); intro gb101 hg w15 hbox hb; have n0_ := Aside0.mk (below_step (BQ) hb); have n1_ := Aside0.mk (hbox); have n2_ := Aside0.mk ((by rw [hg]; exact (below_size (BQ)) : w.heap.size ≤ gb101)); have n3_ := Aside0.mk ((by rw [hg]; exact (below_size (BQ)) : w.heap.size ≤ gb101)); clear HB; have HB := n0_; have BK101 := n1_; have GW101 := n2_; have GE101 := n3_; clear n0_ n1_ n2_ n3_; clear hb hbox hg; have hcz16_0 : w15.cell? ⟨gb101, 0, none⟩ = some (.int .i64 a0_0) := (blk_cell BK101.out 0).trans rfl; have hcz16_1 : w15.cell? ⟨gb101, 1, none⟩ = some (.int .i64 a0_1) := (blk_cell BK101.out 1).trans rfl; have hcz16_2 : w15.cell? ⟨gb101, 2, none⟩ = some (.int .i64 a0_2) := (blk_cell BK101.out 2).trans rfl; have hcz16_3 : w15.cell? ⟨gb101, 3, none⟩ = some (.int .i64 a0_3) := (blk_cell BK101.out 3).trans rfl; have hcz16_4 : w15.cell? ⟨gb101, 4, none⟩ = some (.int .i64 a0_4) := (blk_cell BK101.out 4).trans rfl; have hcz16_5 : w15.cell? ⟨gb101, 5, none⟩ = some (.int .i64 a0_5) := (blk_cell BK101.out 5).trans rfl; have hcz16_6 : w15.cell? ⟨gb101, 6, none⟩ = some (.int .i64 a0_6) := (blk_cell BK101.out 6).trans rfl; have hcz16_7 : w15.cell? ⟨gb101, 7, none⟩ = some (.int .i64 a0_7) := (blk_cell BK101.out 7).trans rfl; have hcz16_8 : w15.cell? ⟨gb101, 8, none⟩ = some (.int .i64 a0_8) := (blk_cell BK101.out 8).trans rfl; have hcz16_9 : w15.cell? ⟨gb101, 9, none⟩ = some (.slice A0_9 l0_9.length c0_9) := (blk_cell BK101.out 9).trans rfl; have hfz16_0 := blk_frozen BK101.out 0; have hfz16_1 := blk_frozen BK101.out 1; have hfz16_2 := blk_frozen BK101.out 2; have hfz16_3 := blk_frozen BK101.out 3; have hfz16_4 := blk_frozen BK101.out 4; have hfz16_5 := blk_frozen BK101.out 5; have hfz16_6 := blk_frozen BK101.out 6; have hfz16_7 := blk_frozen BK101.out 7; have hfz16_8 := blk_frozen BK101.out 8; have hfz16_9 := blk_frozen BK101.out 9) | ((with_reducible refine gate_callee (f := 37) rfl ?_); refine goesL_ (some 29) rfl rfl Tryd.func37 (by kernel_rfl) rfl #[.agg #[.int .i64 a0_0, .int .i64 a0_1, .int .i64 a0_2], .agg #[.int .i64 a0_3, .int .i64 a0_4, .int .i64 a0_5], .agg #[.int .i64 a0_6, .int .i64 a0_7], .int .i64 0, .slice none 0 0] rfl SQ ?_; (refine (payoffref02_Schedule.calls k a0_0 a0_1 a0_2 a0_3 a0_4 a0_5 a0_6 a0_7 0 _ _ ([] : List (S23)) t102 t105 _ ?side1 ?side2 A3.out).mono ?_); (case side1 => exact Kd.C_nil _ _); (case side2 => exact Nat.le_refl _); rintro e w17 ⟨v103, rfl, ho0, hb⟩; refine ⟨_, rfl, ?_⟩; have n0_ := Aside0.mk (Kd.R_lower ho0 (below_size (BQ))); have n1_ := Aside0.mk (blk_below (g := gb101) (o := .cells #[.int .i64 a0_0, .int .i64 a0_1, .int .i64 a0_2, .int .i64 a0_3, .int .i64 a0_4, .int .i64 a0_5, .int .i64 a0_6, .int .i64 a0_7, .int .i64 a0_8, .slice A0_9 l0_9.length c0_9] 53 (0, 0)) ZQ hb); have n2_ := Aside0.mk (below_step (BQ) hb); clear BK101; clear HB; have HO104 := n0_; have BK101 := n1_; have HB := n2_; clear n0_ n1_ n2_; (try clear hb); (try clear hb2); (try clear hk); (try clear hi); (try clear ho0)))
    have n0_ := Aside0.mk (Kd.R_drew HO104.out)
    have n1_ := Aside0.mk (blk_drew BK101.out)
    have n2_ := Aside0.mk (below_drew1 HB.out)
    clear HO104
    clear BK101
    clear HB
    have HO104 := n0_
    have BK101 := n1_
    have HB := n2_
    clear n0_ n1_ n2_
    refine start_ (n := 17) (S := fun w' => w'.cell? ⟨gb101, 0, none⟩ = some (.int .i64 a0_0) ∧ w'.cell? ⟨gb101, 1, none⟩ = some (.int .i64 a0_1) ∧ w'.cell? ⟨gb101, 2, none⟩ = some (.int .i64 a0_2) ∧ w'.cell? ⟨gb101, 3, none⟩ = some (.int .i64 a0_3) ∧ w'.cell? ⟨gb101, 4, none⟩ = some (.int .i64 a0_4) ∧ w'.cell? ⟨gb101, 5, none⟩ = some (.int .i64 a0_5) ∧ w'.cell? ⟨gb101, 6, none⟩ = some (.int .i64 a0_6) ∧ w'.cell? ⟨gb101, 7, none⟩ = some (.int .i64 a0_7) ∧ w'.cell? ⟨gb101, 8, none⟩ = some (.int .i64 a0_8) ∧ w'.cell? ⟨gb101, 9, none⟩ = some (.slice A0_9 l0_9.length c0_9)) (ds := []) #[fF, fF, fF, fF, fF, fF, fF, fF, fF, fF, fF, fF, fF, fF, fF, fF, fF] (by kernel_rfl) rfl rfl ⟨(blk_cell BK101.out 0).trans rfl, (blk_cell BK101.out 1).trans rfl, (blk_cell BK101.out 2).trans rfl, (blk_cell BK101.out 3).trans rfl, (blk_cell BK101.out 4).trans rfl, (blk_cell BK101.out 5).trans rfl, (blk_cell BK101.out 6).trans rfl, (blk_cell BK101.out 7).trans rfl, (blk_cell BK101.out 8).trans rfl, (blk_cell BK101.out 9).trans rfl⟩ (fun hHeld => ?_); refine with_tabW payofflaw02_lateSchedules.tab2 payofflaw02_lateSchedules.bits2 (fun HT_ HW_ => ?_)
    generalize w17.drew = w18 at HO104 BK101 HB hHeld ⊢
    refine pure_ (i := 0) (N := some 33) (v := ?_) (a' := ?_) #[tT, fF, fF, fF, fF, fF, fF, fF, fF, fF, fF, fF, fF, fF, fF, fF, fF] rfl rfl (any_of HT_.out (by kernel_rfl)) (fun _ _ _ h => h) (Or.inl ⟨by rfl, ?_⟩) ?_ ?_
    rotate_left
    ·intro w'
     go_simp
     with_reducible rfl
    rotate_left
    ·simp only [Act.put, lS, lZ, lU, i64_w, i32_w]
     rfl
    refine pure_ (i := 2) (N := some 35) (v := ?_) (a' := ?_) #[tT, fF, tT, fF, fF, fF, fF, fF, fF, fF, fF, fF, fF, fF, fF, fF, fF] rfl rfl (any_of HT_.out (by kernel_rfl)) (fun _ _ _ h => h) (Or.inl ⟨by rfl, ?_⟩) ?_ ?_
    rotate_left
    ·intro w'
     go_simp
     with_reducible rfl
    rotate_left
    ·simp only [Act.put, lS, lZ, lU, i64_w, i32_w]
     rfl
    refine pure_ (i := 4) (N := some 37) (v := ?_) (a' := ?_) #[tT, fF, tT, fF, tT, fF, fF, fF, fF, fF, fF, fF, fF, fF, fF, fF, fF] rfl rfl (any_of HT_.out (by kernel_rfl)) (fun _ _ _ h => h) (Or.inl ⟨by rfl, ?_⟩) ?_ ?_
    rotate_left
    ·intro w'
     go_simp
     with_reducible rfl
    rotate_left
    ·simp only [Act.put, lS, lZ, lU, i64_w, i32_w]
     rfl
    refine pure_ (i := 6) (N := some 39) (v := ?_) (a' := ?_) #[tT, fF, tT, fF, tT, fF, tT, fF, fF, fF, fF, fF, fF, fF, fF, fF, fF] rfl rfl (any_of HT_.out (by kernel_rfl)) (fun _ _ _ h => h) (Or.inl ⟨by rfl, ?_⟩) ?_ ?_
    rotate_left
    ·intro w'
     go_simp
     with_reducible rfl
    rotate_left
    ·simp only [Act.put, lS, lZ, lU, i64_w, i32_w]
     rfl
    refine pure_ (i := 8) (N := some 41) (v := ?_) (a' := ?_) #[tT, fF, tT, fF, tT, fF, tT, fF, tT, fF, fF, fF, fF, fF, fF, fF, fF] rfl rfl (any_of HT_.out (by kernel_rfl)) (fun _ _ _ h => h) (Or.inl ⟨by rfl, ?_⟩) ?_ ?_
    rotate_left
    ·intro w'
     go_simp
     with_reducible rfl
    rotate_left
    ·simp only [Act.put, lS, lZ, lU, i64_w, i32_w]
     rfl
    refine take_ (i := 1) (N := some 34) (v := ?_) (a' := ?_) #[tT, tT, tT, fF, tT, fF, tT, fF, tT, fF, fF, fF, fF, fF, fF, fF, fF] rfl rfl (take_ofW HT_.out HW_.out (by kernel_rfl)) (fun _ _ _ h => h) (Or.inl ⟨by rfl, ?_⟩) hHeld ?_ ?_
    rotate_left
    ·rintro w' ⟨s0, s1, s2, s3, s4, s5, s6, s7, s8, s9⟩
     go_simp
     with_reducible rfl
    rotate_left
    ·simp only [Act.put, lS, lZ, lU, i64_w, i32_w]
     rfl
    refine take_ (i := 3) (N := some 36) (v := ?_) (a' := ?_) #[tT, tT, tT, tT, tT, fF, tT, fF, tT, fF, fF, fF, fF, fF, fF, fF, fF] rfl rfl (take_ofW HT_.out HW_.out (by kernel_rfl)) (fun _ _ _ h => h) (Or.inl ⟨by rfl, ?_⟩) hHeld ?_ ?_
    rotate_left
    ·rintro w' ⟨s0, s1, s2, s3, s4, s5, s6, s7, s8, s9⟩
     go_simp
     with_reducible rfl
    rotate_left
    ·simp only [Act.put, lS, lZ, lU, i64_w, i32_w]
     rfl
    refine take_ (i := 5) (N := some 38) (v := ?_) (a' := ?_) #[tT, tT, tT, tT, tT, tT, tT, fF, tT, fF, fF, fF, fF, fF, fF, fF, fF] rfl rfl (take_ofW HT_.out HW_.out (by kernel_rfl)) (fun _ _ _ h => h) (Or.inl ⟨by rfl, ?_⟩) hHeld ?_ ?_
    rotate_left
    ·rintro w' ⟨s0, s1, s2, s3, s4, s5, s6, s7, s8, s9⟩
     go_simp
     with_reducible rfl
    rotate_left
    ·simp only [Act.put, lS, lZ, lU, i64_w, i32_w]
     rfl
    refine take_ (i := 7) (N := some 40) (v := ?_) (a' := ?_) #[tT, tT, tT, tT, tT, tT, tT, tT, tT, fF, fF, fF, fF, fF, fF, fF, fF] rfl rfl (take_ofW HT_.out HW_.out (by kernel_rfl)) (fun _ _ _ h => h) (Or.inl ⟨by rfl, ?_⟩) hHeld ?_ ?_
    rotate_left
    ·rintro w' ⟨s0, s1, s2, s3, s4, s5, s6, s7, s8, s9⟩
     go_simp
     with_reducible rfl
    rotate_left
    ·simp only [Act.put, lS, lZ, lU, i64_w, i32_w]
     rfl
    refine take_ (i := 9) (N := some 42) (v := ?_) (a' := ?_) #[tT, tT, tT, tT, tT, tT, tT, tT, tT, tT, fF, fF, fF, fF, fF, fF, fF] rfl rfl (take_ofW HT_.out HW_.out (by kernel_rfl)) (fun _ _ _ h => h) (Or.inl ⟨by rfl, ?_⟩) hHeld ?_ ?_
    rotate_left
    ·rintro w' ⟨s0, s1, s2, s3, s4, s5, s6, s7, s8, s9⟩
     go_simp
     with_reducible rfl
    rotate_left
    ·simp only [Act.put, lS, lZ, lU, i64_w, i32_w]
     rfl
    refine one_ (i := 10) (N := some 43) #[tT, tT, tT, tT, tT, tT, tT, tT, tT, tT, tT, fF, fF, fF, fF, fF, fF] rfl rfl (one_of HT_.out (by kernel_rfl)) (by decide) (fun K hK => ?_)
    refine goes_ Tryd.func36 (by kernel_rfl) rfl #[.slice A0_9 l0_9.length c0_9] (by rfl) rfl rfl SQ ?_
    with_reducible refine (payofflaw02_ownDates.calls k _ _ l0_9 t106 _ ?side1 ?side2 A4.out).mono ?_
    (case side1 => repeat (first | exact (Kd.C_below HR0_9.out HB.out) | (with_reducible refine Kd.C_alloc ?_ _) | (with_reducible refine Kd.C_drewN ?_ _) | (with_reducible refine Kd.C_drew ?_)))
    (case side2 => exact HC0_9.out)
    rintro e w19 ⟨v107, rfl, ho0, hb⟩
    refine ⟨_, rfl, ?_⟩
    have n0_ := Aside0.mk (Kd.R_below (by (with_reducible repeat (first | apply kA | apply kN | apply kD)); exact HO104.out) hb)
    have n1_ := Aside0.mk (Kd.R_lower ho0 (below_size (BQ)))
    have n2_ := Aside0.mk (blk_below (g := gb101) (o := .cells #[.int .i64 a0_0, .int .i64 a0_1, .int .i64 a0_2, .int .i64 a0_3, .int .i64 a0_4, .int .i64 a0_5, .int .i64 a0_6, .int .i64 a0_7, .int .i64 a0_8, .slice A0_9 l0_9.length c0_9] 53 (0, 0)) ZQ hb)
    have n3_ := Aside0.mk (below_step (BQ) hb)
    clear HO104
    clear BK101
    clear HB
    have HO104 := n0_
    have HO108 := n1_
    have BK101 := n2_
    have HB := n3_
    clear n0_ n1_ n2_ n3_
    (try clear hb)
    (try clear hb2)
    (try clear hk)
    (try clear hi)
    (try clear ho0)
    obtain ⟨Ao20, co20, eo20⟩ := Kd.R_slice HO108.out
    (first | subst eo20 | (injection eo20 with f1_ f2_ f3_; have f4_ := f1_.symm; have f5_ := f3_.symm; clear f1_ f2_ f3_; subst f4_; subst f5_))
    refine hK.out _ _ ⟨(blk_cell BK101.out 0).trans rfl, (blk_cell BK101.out 1).trans rfl, (blk_cell BK101.out 2).trans rfl, (blk_cell BK101.out 3).trans rfl, (blk_cell BK101.out 4).trans rfl, (blk_cell BK101.out 5).trans rfl, (blk_cell BK101.out 6).trans rfl, (blk_cell BK101.out 7).trans rfl, (blk_cell BK101.out 8).trans rfl, (blk_cell BK101.out 9).trans rfl⟩ (fun hHeld => ?_)
    clear hK K
    refine norm_ (a' := ?_) ?_ ?_
    rotate_left
    ·show Act.put _ (some 43) _ = _
     simp only [Act.put, lS, lZ, lU, i64_w, i32_w]
     rfl
    refine one_ (i := 11) (N := some 44) #[tT, tT, tT, tT, tT, tT, tT, tT, tT, tT, tT, tT, fF, fF, fF, fF, fF] rfl rfl (one_of HT_.out (by kernel_rfl)) (by decide) (fun K hK => ?_)
    refine goes_ Tryd.func40 (by kernel_rfl) rfl #[.agg #[.int .i64 a0_0, .int .i64 a0_1, .int .i64 a0_2], .agg #[.int .i64 a0_3, .int .i64 a0_4, .int .i64 a0_5], .agg #[.int .i64 a0_6, .int .i64 a0_7], .int .i64 a0_8, .slice Ao20 t106.length co20] (by rfl) rfl rfl SQ ?_
    with_reducible refine (cal_Schedule.calls k a0_0 a0_1 a0_2 a0_3 a0_4 a0_5 a0_6 a0_7 a0_8 _ _ t106 t109 t112 _ ?side1 ?side2 A5.out TQ).mono ?_
    (case side1 => repeat (first | exact (Kd.R_reads' HO108.out).2.2 | (with_reducible refine Kd.C_alloc ?_ _) | (with_reducible refine Kd.C_drewN ?_ _) | (with_reducible refine Kd.C_drew ?_)))
    (case side2 => exact (Kd.R_reads' HO108.out).2.1)
    rintro e w21 ⟨v110, rfl, ho0, hb⟩
    refine ⟨_, rfl, ?_⟩
    have n0_ := Aside0.mk (Kd.R_elder' (by (with_reducible repeat (first | apply kA | apply kN | apply kD)); exact HO104.out) (Kd.R_base ho0) hb)
    have n1_ := Aside0.mk (Kd.R_below (by (with_reducible repeat (first | apply kA | apply kN | apply kD)); exact HO108.out) hb)
    have n2_ := Aside0.mk (Kd.R_lower (Kd.R_new' ho0 (Kd.R_lt (by (with_reducible repeat (first | apply kA | apply kN | apply kD)); exact HO104.out))) (below_size (BQ)))
    have n3_ := Aside0.mk (blk_below (g := gb101) (o := .cells #[.int .i64 a0_0, .int .i64 a0_1, .int .i64 a0_2, .int .i64 a0_3, .int .i64 a0_4, .int .i64 a0_5, .int .i64 a0_6, .int .i64 a0_7, .int .i64 a0_8, .slice A0_9 l0_9.length c0_9] 53 (0, 0)) ZQ hb)
    have n4_ := Aside0.mk (below_step (BQ) hb)
    clear HO104
    clear HO108
    clear BK101
    clear HB
    have HO104 := n0_
    have HO108 := n1_
    have HO111 := n2_
    have BK101 := n3_
    have HB := n4_
    clear n0_ n1_ n2_ n3_ n4_
    (try clear hb)
    (try clear hb2)
    (try clear hk)
    (try clear hi)
    (try clear ho0)
    refine hK.out _ _ ⟨(blk_cell BK101.out 0).trans rfl, (blk_cell BK101.out 1).trans rfl, (blk_cell BK101.out 2).trans rfl, (blk_cell BK101.out 3).trans rfl, (blk_cell BK101.out 4).trans rfl, (blk_cell BK101.out 5).trans rfl, (blk_cell BK101.out 6).trans rfl, (blk_cell BK101.out 7).trans rfl, (blk_cell BK101.out 8).trans rfl, (blk_cell BK101.out 9).trans rfl⟩ (fun hHeld => ?_)
    clear hK K
    refine norm_ (a' := ?_) ?_ ?_
    rotate_left
    ·show Act.put _ (some 44) _ = _
     simp only [Act.put, lS, lZ, lU, i64_w, i32_w]
     rfl
    refine pure_ (i := 12) (N := some 32) (v := ?_) (a' := ?_) #[tT, tT, tT, tT, tT, tT, tT, tT, tT, tT, tT, tT, tT, fF, fF, fF, fF] rfl rfl (any_of HT_.out (by kernel_rfl)) (fun _ _ _ h => h) (Or.inl ⟨by rfl, ?_⟩) ?_ ?_
    rotate_left
    ·intro w'
     go_simp
     with_reducible rfl
    rotate_left
    ·simp only [Act.put, lS, lZ, lU, i64_w, i32_w]
     rfl
    refine pure_ (i := 13) (N := some 45) (v := ?_) (a' := ?_) #[tT, tT, tT, tT, tT, tT, tT, tT, tT, tT, tT, tT, tT, tT, fF, fF, fF] rfl rfl (any_of HT_.out (by kernel_rfl)) (fun _ _ _ h => h) (Or.inl ⟨by rfl, ?_⟩) ?_ ?_
    rotate_left
    ·intro w'
     go_simp
     with_reducible rfl
    rotate_left
    ·simp only [Act.put, lS, lZ, lU, i64_w, i32_w]
     rfl
    refine pure_ (i := 14) (N := some 46) (v := ?_) (a' := ?_) #[tT, tT, tT, tT, tT, tT, tT, tT, tT, tT, tT, tT, tT, tT, tT, fF, fF] rfl rfl (any_of HT_.out (by kernel_rfl)) (fun _ _ _ h => h) (Or.inl ⟨by rfl, ?_⟩) ?_ ?_
    rotate_left
    ·intro w'
     go_simp
     with_reducible rfl
    rotate_left
    ·simp only [Act.put, lS, lZ, lU, i64_w, i32_w]
     rfl
    refine pure_ (i := 15) (N := some 7) (v := ?_) (a' := ?_) #[tT, tT, tT, tT, tT, tT, tT, tT, tT, tT, tT, tT, tT, tT, tT, tT, fF] rfl rfl (any_of HT_.out (by kernel_rfl)) (fun _ _ _ h => h) (Or.inl ⟨by rfl, ?_⟩) ?_ ?_
    rotate_left
    ·intro w'
     go_simp
     with_reducible rfl
    rotate_left
    ·simp only [Act.put, lS, lZ, lU, i64_w, i32_w]
     rfl
    refine pure_ (i := 16) (N := some 8) (v := ?_) (a' := ?_) #[tT, tT, tT, tT, tT, tT, tT, tT, tT, tT, tT, tT, tT, tT, tT, tT, tT] rfl rfl (any_of HT_.out (by kernel_rfl)) (fun _ _ _ h => h) (Or.inl ⟨by rfl, ?_⟩) ?_ ?_
    rotate_left
    ·intro w'
     go_simp
     with_reducible rfl
    rotate_left
    ·simp only [Act.put, lS, lZ, lU, i64_w, i32_w]
     rfl
    refine done_ (done_of HT_.out (by kernel_rfl)) ?_
    have hcz22_0 : w21.cell? ⟨gb101, 0, none⟩ = some (.int .i64 a0_0) := (blk_cell BK101.out 0).trans rfl
    have hcz22_1 : w21.cell? ⟨gb101, 1, none⟩ = some (.int .i64 a0_1) := (blk_cell BK101.out 1).trans rfl
    have hcz22_2 : w21.cell? ⟨gb101, 2, none⟩ = some (.int .i64 a0_2) := (blk_cell BK101.out 2).trans rfl
    have hcz22_3 : w21.cell? ⟨gb101, 3, none⟩ = some (.int .i64 a0_3) := (blk_cell BK101.out 3).trans rfl
    have hcz22_4 : w21.cell? ⟨gb101, 4, none⟩ = some (.int .i64 a0_4) := (blk_cell BK101.out 4).trans rfl
    have hcz22_5 : w21.cell? ⟨gb101, 5, none⟩ = some (.int .i64 a0_5) := (blk_cell BK101.out 5).trans rfl
    have hcz22_6 : w21.cell? ⟨gb101, 6, none⟩ = some (.int .i64 a0_6) := (blk_cell BK101.out 6).trans rfl
    have hcz22_7 : w21.cell? ⟨gb101, 7, none⟩ = some (.int .i64 a0_7) := (blk_cell BK101.out 7).trans rfl
    have hcz22_8 : w21.cell? ⟨gb101, 8, none⟩ = some (.int .i64 a0_8) := (blk_cell BK101.out 8).trans rfl
    have hcz22_9 : w21.cell? ⟨gb101, 9, none⟩ = some (.slice A0_9 l0_9.length c0_9) := (blk_cell BK101.out 9).trans rfl
    have hfz22_0 := blk_frozen BK101.out 0
    have hfz22_1 := blk_frozen BK101.out 1
    have hfz22_2 := blk_frozen BK101.out 2
    have hfz22_3 := blk_frozen BK101.out 3
    have hfz22_4 := blk_frozen BK101.out 4
    have hfz22_5 := blk_frozen BK101.out 5
    have hfz22_6 := blk_frozen BK101.out 6
    have hfz22_7 := blk_frozen BK101.out 7
    have hfz22_8 := blk_frozen BK101.out 8
    have hfz22_9 := blk_frozen BK101.out 9
    try go_wp2_with (first | ((with_reducible refine gate_callee (f := 40) rfl ?_); refine goesL_ (some 54) rfl rfl Tryd.func40 (by kernel_rfl) rfl #[.agg #[.int .i64 a0_0, .int .i64 a0_1, .int .i64 a0_2], .agg #[.int .i64 a0_3, .int .i64 a0_4, .int .i64 a0_5], .agg #[.int .i64 a0_6, .int .i64 a0_7], .int .i64 0, .slice none 0 0] rfl SQ ?_; (refine (cal_Schedule.calls k a0_0 a0_1 a0_2 a0_3 a0_4 a0_5 a0_6 a0_7 0 _ _ ([] : List (S23)) t113 t116 _ ?side1 ?side2 A6.out TQ).mono ?_); (case side1 => exact Kd.C_nil _ _); (case side2 => exact Nat.le_refl _); rintro e w23 ⟨v114, rfl, ho0, hb⟩; refine ⟨_, rfl, ?_⟩; have n0_ := Aside0.mk (Kd.R_elder' (by (with_reducible repeat (first | apply kA | apply kN | apply kD)); exact HO104.out) (Kd.R_base ho0) hb); have n1_ := Aside0.mk (Kd.R_below (by (with_reducible repeat (first | apply kA | apply kN | apply kD)); exact HO108.out) hb); have n2_ := Aside0.mk (Kd.R_elder' (by (with_reducible repeat (first | apply kA | apply kN | apply kD)); exact HO111.out) (Kd.R_base ho0) hb); have n3_ := Aside0.mk (Kd.R_lower (Kd.R_new' (Kd.R_new' ho0 (Kd.R_lt (by (with_reducible repeat (first | apply kA | apply kN | apply kD)); exact HO104.out))) (Kd.R_lt (by (with_reducible repeat (first | apply kA | apply kN | apply kD)); exact HO111.out))) (below_size (BQ))); have n4_ := Aside0.mk (blk_below (g := gb101) (o := .cells #[.int .i64 a0_0, .int .i64 a0_1, .int .i64 a0_2, .int .i64 a0_3, .int .i64 a0_4, .int .i64 a0_5, .int .i64 a0_6, .int .i64 a0_7, .int .i64 a0_8, .slice A0_9 l0_9.length c0_9] 53 (0, 0)) ZQ hb); have n5_ := Aside0.mk (below_step (BQ) hb); clear HO104; clear HO108; clear HO111; clear BK101; clear HB; have HO104 := n0_; have HO108 := n1_; have HO111 := n2_; have HO115 := n3_; have BK101 := n4_; have HB := n5_; clear n0_ n1_ n2_ n3_ n4_ n5_; (try clear hb); (try clear hb2); (try clear hk); (try clear hi); (try clear ho0)))
    have n0_ := Aside0.mk (Kd.R_drew HO104.out)
    have n1_ := Aside0.mk (Kd.R_drew HO108.out)
    have n2_ := Aside0.mk (Kd.R_drew HO111.out)
    have n3_ := Aside0.mk (Kd.R_drew HO115.out)
    have n4_ := Aside0.mk (blk_drew BK101.out)
    have n5_ := Aside0.mk (below_drew1 HB.out)
    clear HO104
    clear HO108
    clear HO111
    clear HO115
    clear BK101
    clear HB
    have HO104 := n0_
    have HO108 := n1_
    have HO111 := n2_
    have HO115 := n3_
    have BK101 := n4_
    have HB := n5_
    clear n0_ n1_ n2_ n3_ n4_ n5_
    refine start_ (n := 17) (S := fun w' => w'.cell? ⟨gb101, 0, none⟩ = some (.int .i64 a0_0) ∧ w'.cell? ⟨gb101, 1, none⟩ = some (.int .i64 a0_1) ∧ w'.cell? ⟨gb101, 2, none⟩ = some (.int .i64 a0_2) ∧ w'.cell? ⟨gb101, 3, none⟩ = some (.int .i64 a0_3) ∧ w'.cell? ⟨gb101, 4, none⟩ = some (.int .i64 a0_4) ∧ w'.cell? ⟨gb101, 5, none⟩ = some (.int .i64 a0_5) ∧ w'.cell? ⟨gb101, 6, none⟩ = some (.int .i64 a0_6) ∧ w'.cell? ⟨gb101, 7, none⟩ = some (.int .i64 a0_7) ∧ w'.cell? ⟨gb101, 8, none⟩ = some (.int .i64 a0_8) ∧ w'.cell? ⟨gb101, 9, none⟩ = some (.slice A0_9 l0_9.length c0_9)) (ds := []) #[fF, fF, fF, fF, fF, fF, fF, fF, fF, fF, fF, fF, fF, fF, fF, fF, fF] (by kernel_rfl) rfl rfl ⟨(blk_cell BK101.out 0).trans rfl, (blk_cell BK101.out 1).trans rfl, (blk_cell BK101.out 2).trans rfl, (blk_cell BK101.out 3).trans rfl, (blk_cell BK101.out 4).trans rfl, (blk_cell BK101.out 5).trans rfl, (blk_cell BK101.out 6).trans rfl, (blk_cell BK101.out 7).trans rfl, (blk_cell BK101.out 8).trans rfl, (blk_cell BK101.out 9).trans rfl⟩ (fun hHeld => ?_); refine with_tabW payofflaw02_lateSchedules.tab4 payofflaw02_lateSchedules.bits4 (fun HT_ HW_ => ?_)
    generalize w23.drew = w24 at HO104 HO108 HO111 HO115 BK101 HB hHeld ⊢
    refine pure_ (i := 0) (N := some 58) (v := ?_) (a' := ?_) #[tT, fF, fF, fF, fF, fF, fF, fF, fF, fF, fF, fF, fF, fF, fF, fF, fF] rfl rfl (any_of HT_.out (by kernel_rfl)) (fun _ _ _ h => h) (Or.inl ⟨by rfl, ?_⟩) ?_ ?_
    rotate_left
    ·intro w'
     go_simp
     with_reducible rfl
    rotate_left
    ·simp only [Act.put, lS, lZ, lU, i64_w, i32_w]
     rfl
    refine pure_ (i := 2) (N := some 60) (v := ?_) (a' := ?_) #[tT, fF, tT, fF, fF, fF, fF, fF, fF, fF, fF, fF, fF, fF, fF, fF, fF] rfl rfl (any_of HT_.out (by kernel_rfl)) (fun _ _ _ h => h) (Or.inl ⟨by rfl, ?_⟩) ?_ ?_
    rotate_left
    ·intro w'
     go_simp
     with_reducible rfl
    rotate_left
    ·simp only [Act.put, lS, lZ, lU, i64_w, i32_w]
     rfl
    refine pure_ (i := 4) (N := some 62) (v := ?_) (a' := ?_) #[tT, fF, tT, fF, tT, fF, fF, fF, fF, fF, fF, fF, fF, fF, fF, fF, fF] rfl rfl (any_of HT_.out (by kernel_rfl)) (fun _ _ _ h => h) (Or.inl ⟨by rfl, ?_⟩) ?_ ?_
    rotate_left
    ·intro w'
     go_simp
     with_reducible rfl
    rotate_left
    ·simp only [Act.put, lS, lZ, lU, i64_w, i32_w]
     rfl
    refine pure_ (i := 6) (N := some 64) (v := ?_) (a' := ?_) #[tT, fF, tT, fF, tT, fF, tT, fF, fF, fF, fF, fF, fF, fF, fF, fF, fF] rfl rfl (any_of HT_.out (by kernel_rfl)) (fun _ _ _ h => h) (Or.inl ⟨by rfl, ?_⟩) ?_ ?_
    rotate_left
    ·intro w'
     go_simp
     with_reducible rfl
    rotate_left
    ·simp only [Act.put, lS, lZ, lU, i64_w, i32_w]
     rfl
    refine pure_ (i := 8) (N := some 66) (v := ?_) (a' := ?_) #[tT, fF, tT, fF, tT, fF, tT, fF, tT, fF, fF, fF, fF, fF, fF, fF, fF] rfl rfl (any_of HT_.out (by kernel_rfl)) (fun _ _ _ h => h) (Or.inl ⟨by rfl, ?_⟩) ?_ ?_
    rotate_left
    ·intro w'
     go_simp
     with_reducible rfl
    rotate_left
    ·simp only [Act.put, lS, lZ, lU, i64_w, i32_w]
     rfl
    refine take_ (i := 1) (N := some 59) (v := ?_) (a' := ?_) #[tT, tT, tT, fF, tT, fF, tT, fF, tT, fF, fF, fF, fF, fF, fF, fF, fF] rfl rfl (take_ofW HT_.out HW_.out (by kernel_rfl)) (fun _ _ _ h => h) (Or.inl ⟨by rfl, ?_⟩) hHeld ?_ ?_
    rotate_left
    ·rintro w' ⟨s0, s1, s2, s3, s4, s5, s6, s7, s8, s9⟩
     go_simp
     with_reducible rfl
    rotate_left
    ·simp only [Act.put, lS, lZ, lU, i64_w, i32_w]
     rfl
    refine take_ (i := 3) (N := some 61) (v := ?_) (a' := ?_) #[tT, tT, tT, tT, tT, fF, tT, fF, tT, fF, fF, fF, fF, fF, fF, fF, fF] rfl rfl (take_ofW HT_.out HW_.out (by kernel_rfl)) (fun _ _ _ h => h) (Or.inl ⟨by rfl, ?_⟩) hHeld ?_ ?_
    rotate_left
    ·rintro w' ⟨s0, s1, s2, s3, s4, s5, s6, s7, s8, s9⟩
     go_simp
     with_reducible rfl
    rotate_left
    ·simp only [Act.put, lS, lZ, lU, i64_w, i32_w]
     rfl
    refine take_ (i := 5) (N := some 63) (v := ?_) (a' := ?_) #[tT, tT, tT, tT, tT, tT, tT, fF, tT, fF, fF, fF, fF, fF, fF, fF, fF] rfl rfl (take_ofW HT_.out HW_.out (by kernel_rfl)) (fun _ _ _ h => h) (Or.inl ⟨by rfl, ?_⟩) hHeld ?_ ?_
    rotate_left
    ·rintro w' ⟨s0, s1, s2, s3, s4, s5, s6, s7, s8, s9⟩
     go_simp
     with_reducible rfl
    rotate_left
    ·simp only [Act.put, lS, lZ, lU, i64_w, i32_w]
     rfl
    refine take_ (i := 7) (N := some 65) (v := ?_) (a' := ?_) #[tT, tT, tT, tT, tT, tT, tT, tT, tT, fF, fF, fF, fF, fF, fF, fF, fF] rfl rfl (take_ofW HT_.out HW_.out (by kernel_rfl)) (fun _ _ _ h => h) (Or.inl ⟨by rfl, ?_⟩) hHeld ?_ ?_
    rotate_left
    ·rintro w' ⟨s0, s1, s2, s3, s4, s5, s6, s7, s8, s9⟩
     go_simp
     with_reducible rfl
    rotate_left
    ·simp only [Act.put, lS, lZ, lU, i64_w, i32_w]
     rfl
    refine take_ (i := 9) (N := some 67) (v := ?_) (a' := ?_) #[tT, tT, tT, tT, tT, tT, tT, tT, tT, tT, fF, fF, fF, fF, fF, fF, fF] rfl rfl (take_ofW HT_.out HW_.out (by kernel_rfl)) (fun _ _ _ h => h) (Or.inl ⟨by rfl, ?_⟩) hHeld ?_ ?_
    rotate_left
    ·rintro w' ⟨s0, s1, s2, s3, s4, s5, s6, s7, s8, s9⟩
     go_simp
     with_reducible rfl
    rotate_left
    ·simp only [Act.put, lS, lZ, lU, i64_w, i32_w]
     rfl
    refine one_ (i := 10) (N := some 68) #[tT, tT, tT, tT, tT, tT, tT, tT, tT, tT, tT, fF, fF, fF, fF, fF, fF] rfl rfl (one_of HT_.out (by kernel_rfl)) (by decide) (fun K hK => ?_)
    refine goes_ Tryd.func36 (by kernel_rfl) rfl #[.slice A0_9 l0_9.length c0_9] (by rfl) rfl rfl SQ ?_
    with_reducible refine (payofflaw02_ownDates.calls k _ _ l0_9 t117 _ ?side1 ?side2 A7.out).mono ?_
    (case side1 => repeat (first | exact (Kd.C_below HR0_9.out HB.out) | (with_reducible refine Kd.C_alloc ?_ _) | (with_reducible refine Kd.C_drewN ?_ _) | (with_reducible refine Kd.C_drew ?_)))
    (case side2 => exact HC0_9.out)
    rintro e w25 ⟨v118, rfl, ho0, hb⟩
    refine ⟨_, rfl, ?_⟩
    have n0_ := Aside0.mk (Kd.R_below (by (with_reducible repeat (first | apply kA | apply kN | apply kD)); exact HO104.out) hb)
    have n1_ := Aside0.mk (Kd.R_elder' (by (with_reducible repeat (first | apply kA | apply kN | apply kD)); exact HO108.out) (Kd.R_base ho0) hb)
    have n2_ := Aside0.mk (Kd.R_below (by (with_reducible repeat (first | apply kA | apply kN | apply kD)); exact HO111.out) hb)
    have n3_ := Aside0.mk (Kd.R_below (by (with_reducible repeat (first | apply kA | apply kN | apply kD)); exact HO115.out) hb)
    have n4_ := Aside0.mk (Kd.R_lower (Kd.R_new' ho0 (Kd.R_lt (by (with_reducible repeat (first | apply kA | apply kN | apply kD)); exact HO108.out))) (below_size (BQ)))
    have n5_ := Aside0.mk (blk_below (g := gb101) (o := .cells #[.int .i64 a0_0, .int .i64 a0_1, .int .i64 a0_2, .int .i64 a0_3, .int .i64 a0_4, .int .i64 a0_5, .int .i64 a0_6, .int .i64 a0_7, .int .i64 a0_8, .slice A0_9 l0_9.length c0_9] 53 (0, 0)) ZQ hb)
    have n6_ := Aside0.mk (below_step (BQ) hb)
    clear HO104
    clear HO108
    clear HO111
    clear HO115
    clear BK101
    clear HB
    have HO104 := n0_
    have HO108 := n1_
    have HO111 := n2_
    have HO115 := n3_
    have HO119 := n4_
    have BK101 := n5_
    have HB := n6_
    clear n0_ n1_ n2_ n3_ n4_ n5_ n6_
    (try clear hb)
    (try clear hb2)
    (try clear hk)
    (try clear hi)
    (try clear ho0)
    obtain ⟨Ao26, co26, eo26⟩ := Kd.R_slice HO119.out
    (first | subst eo26 | (injection eo26 with f1_ f2_ f3_; have f4_ := f1_.symm; have f5_ := f3_.symm; clear f1_ f2_ f3_; subst f4_; subst f5_))
    refine hK.out _ _ ⟨(blk_cell BK101.out 0).trans rfl, (blk_cell BK101.out 1).trans rfl, (blk_cell BK101.out 2).trans rfl, (blk_cell BK101.out 3).trans rfl, (blk_cell BK101.out 4).trans rfl, (blk_cell BK101.out 5).trans rfl, (blk_cell BK101.out 6).trans rfl, (blk_cell BK101.out 7).trans rfl, (blk_cell BK101.out 8).trans rfl, (blk_cell BK101.out 9).trans rfl⟩ (fun hHeld => ?_)
    clear hK K
    refine norm_ (a' := ?_) ?_ ?_
    rotate_left
    ·show Act.put _ (some 68) _ = _
     simp only [Act.put, lS, lZ, lU, i64_w, i32_w]
     rfl
    refine one_ (i := 11) (N := some 69) #[tT, tT, tT, tT, tT, tT, tT, tT, tT, tT, tT, tT, fF, fF, fF, fF, fF] rfl rfl (one_of HT_.out (by kernel_rfl)) (by decide) (fun K hK => ?_)
    refine goes_ Tryd.func40 (by kernel_rfl) rfl #[.agg #[.int .i64 a0_0, .int .i64 a0_1, .int .i64 a0_2], .agg #[.int .i64 a0_3, .int .i64 a0_4, .int .i64 a0_5], .agg #[.int .i64 a0_6, .int .i64 a0_7], .int .i64 a0_8, .slice Ao26 t117.length co26] (by rfl) rfl rfl SQ ?_
    with_reducible refine (cal_Schedule.calls k a0_0 a0_1 a0_2 a0_3 a0_4 a0_5 a0_6 a0_7 a0_8 _ _ t117 t120 t123 _ ?side1 ?side2 A8.out TQ).mono ?_
    (case side1 => repeat (first | exact (Kd.R_reads' HO119.out).2.2 | (with_reducible refine Kd.C_alloc ?_ _) | (with_reducible refine Kd.C_drewN ?_ _) | (with_reducible refine Kd.C_drew ?_)))
    (case side2 => exact (Kd.R_reads' HO119.out).2.1)
    rintro e w27 ⟨v121, rfl, ho0, hb⟩
    refine ⟨_, rfl, ?_⟩
    have n0_ := Aside0.mk (Kd.R_elder' (by (with_reducible repeat (first | apply kA | apply kN | apply kD)); exact HO104.out) (Kd.R_base ho0) hb)
    have n1_ := Aside0.mk (Kd.R_below (by (with_reducible repeat (first | apply kA | apply kN | apply kD)); exact HO108.out) hb)
    have n2_ := Aside0.mk (Kd.R_elder' (by (with_reducible repeat (first | apply kA | apply kN | apply kD)); exact HO111.out) (Kd.R_base ho0) hb)
    have n3_ := Aside0.mk (Kd.R_elder' (by (with_reducible repeat (first | apply kA | apply kN | apply kD)); exact HO115.out) (Kd.R_base ho0) hb)
    have n4_ := Aside0.mk (Kd.R_below (by (with_reducible repeat (first | apply kA | apply kN | apply kD)); exact HO119.out) hb)
    have n5_ := Aside0.mk (Kd.R_lower (Kd.R_new' (Kd.R_new' (Kd.R_new' ho0 (Kd.R_lt (by (with_reducible repeat (first | apply kA | apply kN | apply kD)); exact HO104.out))) (Kd.R_lt (by (with_reducible repeat (first | apply kA | apply kN | apply kD)); exact HO111.out))) (Kd.R_lt (by (with_reducible repeat (first | apply kA | apply kN | apply kD)); exact HO115.out))) (below_size (BQ)))
    have n6_ := Aside0.mk (blk_below (g := gb101) (o := .cells #[.int .i64 a0_0, .int .i64 a0_1, .int .i64 a0_2, .int .i64 a0_3, .int .i64 a0_4, .int .i64 a0_5, .int .i64 a0_6, .int .i64 a0_7, .int .i64 a0_8, .slice A0_9 l0_9.length c0_9] 53 (0, 0)) ZQ hb)
    have n7_ := Aside0.mk (below_step (BQ) hb)
    clear HO104
    clear HO108
    clear HO111
    clear HO115
    clear HO119
    clear BK101
    clear HB
    have HO104 := n0_
    have HO108 := n1_
    have HO111 := n2_
    have HO115 := n3_
    have HO119 := n4_
    have HO122 := n5_
    have BK101 := n6_
    have HB := n7_
    clear n0_ n1_ n2_ n3_ n4_ n5_ n6_ n7_
    (try clear hb)
    (try clear hb2)
    (try clear hk)
    (try clear hi)
    (try clear ho0)
    refine hK.out _ _ ⟨(blk_cell BK101.out 0).trans rfl, (blk_cell BK101.out 1).trans rfl, (blk_cell BK101.out 2).trans rfl, (blk_cell BK101.out 3).trans rfl, (blk_cell BK101.out 4).trans rfl, (blk_cell BK101.out 5).trans rfl, (blk_cell BK101.out 6).trans rfl, (blk_cell BK101.out 7).trans rfl, (blk_cell BK101.out 8).trans rfl, (blk_cell BK101.out 9).trans rfl⟩ (fun hHeld => ?_)
    clear hK K
    refine norm_ (a' := ?_) ?_ ?_
    rotate_left
    ·show Act.put _ (some 69) _ = _
     simp only [Act.put, lS, lZ, lU, i64_w, i32_w]
     rfl
    refine pure_ (i := 12) (N := some 57) (v := ?_) (a' := ?_) #[tT, tT, tT, tT, tT, tT, tT, tT, tT, tT, tT, tT, tT, fF, fF, fF, fF] rfl rfl (any_of HT_.out (by kernel_rfl)) (fun _ _ _ h => h) (Or.inl ⟨by rfl, ?_⟩) ?_ ?_
    rotate_left
    ·intro w'
     go_simp
     with_reducible rfl
    rotate_left
    ·simp only [Act.put, lS, lZ, lU, i64_w, i32_w]
     rfl
    refine pure_ (i := 13) (N := some 70) (v := ?_) (a' := ?_) #[tT, tT, tT, tT, tT, tT, tT, tT, tT, tT, tT, tT, tT, tT, fF, fF, fF] rfl rfl (any_of HT_.out (by kernel_rfl)) (fun _ _ _ h => h) (Or.inl ⟨by rfl, ?_⟩) ?_ ?_
    rotate_left
    ·intro w'
     go_simp
     with_reducible rfl
    rotate_left
    ·simp only [Act.put, lS, lZ, lU, i64_w, i32_w]
     rfl
    refine pure_ (i := 14) (N := some 71) (v := ?_) (a' := ?_) #[tT, tT, tT, tT, tT, tT, tT, tT, tT, tT, tT, tT, tT, tT, tT, fF, fF] rfl rfl (any_of HT_.out (by kernel_rfl)) (fun _ _ _ h => h) (Or.inl ⟨by rfl, ?_⟩) ?_ ?_
    rotate_left
    ·intro w'
     go_simp
     with_reducible rfl
    rotate_left
    ·simp only [Act.put, lS, lZ, lU, i64_w, i32_w]
     rfl
    refine pure_ (i := 15) (N := some 11) (v := ?_) (a' := ?_) #[tT, tT, tT, tT, tT, tT, tT, tT, tT, tT, tT, tT, tT, tT, tT, tT, fF] rfl rfl (any_of HT_.out (by kernel_rfl)) (fun _ _ _ h => h) (Or.inl ⟨by rfl, ?_⟩) ?_ ?_
    rotate_left
    ·intro w'
     go_simp
     with_reducible rfl
    rotate_left
    ·simp only [Act.put, lS, lZ, lU, i64_w, i32_w]
     rfl
    refine pure_ (i := 16) (N := some 12) (v := ?_) (a' := ?_) #[tT, tT, tT, tT, tT, tT, tT, tT, tT, tT, tT, tT, tT, tT, tT, tT, tT] rfl rfl (any_of HT_.out (by kernel_rfl)) (fun _ _ _ h => h) (Or.inl ⟨by rfl, ?_⟩) ?_ ?_
    rotate_left
    ·intro w'
     go_simp
     with_reducible rfl
    rotate_left
    ·simp only [Act.put, lS, lZ, lU, i64_w, i32_w]
     rfl
    refine done_ (done_of HT_.out (by kernel_rfl)) ?_
    obtain ⟨Ao28, co28, eo28⟩ := Kd.R_slice HO111.out
    subst eo28
    try go_wp2_with (first | ((with_reducible refine gate_callee (f := 41) rfl ?_); refine goesL_ (some 74) rfl rfl Tryd.func41 (by kernel_rfl) rfl #[.slice Ao28 t109.length co28, .slice A1 l1.length c1] rfl SQ ?_; (with_reducible refine (payofflaw02_sameInts.calls k _ _ t109 _ _ l1 true _ ?side1 ?side2 ?side3 ?side4 A9.out).mono ?_); (case side1 => repeat (first | exact (Kd.R_reads' HO111.out).2.2 | (with_reducible refine Kd.C_alloc ?_ _) | (with_reducible refine Kd.C_drewN ?_ _) | (with_reducible refine Kd.C_drew ?_))); (case side2 => exact (Kd.R_reads' HO111.out).2.1); (case side3 => repeat (first | exact (Kd.C_below HR1.out HB.out) | (with_reducible refine Kd.C_alloc ?_ _) | (with_reducible refine Kd.C_drewN ?_ _) | (with_reducible refine Kd.C_drew ?_))); (case side4 => exact HC1.out); rintro e w' ⟨rfl, ⟨nd, rfl⟩⟩; refine ⟨_, rfl, ?_⟩; obtain ⟨Ao29, co29, eo29⟩ := Kd.R_slice HO115.out; subst eo29; obtain ⟨Ao30, co30, eo30⟩ := Kd.R_slice HO104.out; subst eo30) | (go_at_call 41; (with_reducible refine (payofflaw02_sameInts.calls k _ _ t113 _ _ t102 true _ ?side1 ?side2 ?side3 ?side4 A11.out).mono ?_); (case side1 => repeat (first | exact (Kd.R_reads' HO115.out).2.2 | (with_reducible refine Kd.C_alloc ?_ _) | (with_reducible refine Kd.C_drewN ?_ _) | (with_reducible refine Kd.C_drew ?_))); (case side2 => exact (Kd.R_reads' HO115.out).2.1); (case side3 => repeat (first | exact (Kd.R_reads' HO104.out).2.2 | (with_reducible refine Kd.C_alloc ?_ _) | (with_reducible refine Kd.C_drewN ?_ _) | (with_reducible refine Kd.C_drew ?_))); (case side4 => exact (Kd.R_reads' HO104.out).2.1); rintro e w' ⟨rfl, ⟨nd, rfl⟩⟩; obtain ⟨Ao31, co31, eo31⟩ := Kd.R_slice HO122.out; subst eo31) | (go_at_call 41; (with_reducible refine (payofflaw02_sameInts.calls k _ _ t120 _ _ l1 true _ ?side1 ?side2 ?side3 ?side4 A13.out).mono ?_); (case side1 => repeat (first | exact (Kd.R_reads' HO122.out).2.2 | (with_reducible refine Kd.C_alloc ?_ _) | (with_reducible refine Kd.C_drewN ?_ _) | (with_reducible refine Kd.C_drew ?_))); (case side2 => exact (Kd.R_reads' HO122.out).2.1); (case side3 => repeat (first | exact (Kd.C_below HR1.out (BQ)) | (with_reducible refine Kd.C_alloc ?_ _) | (with_reducible refine Kd.C_drewN ?_ _) | (with_reducible refine Kd.C_drew ?_))); (case side4 => exact HC1.out); rintro e w' ⟨rfl, ⟨nd, rfl⟩⟩))
    have hbound := HBN.out
    have hgL0 : w.heap.size ≤ w27.heap.size := HB.out.size
    obtain ⟨gL, hgL⟩ : ∃ gL, w27.heap.size = gL := ⟨_, rfl⟩
    generalize hV0 : World.alloc (World.drewN w27 _) _ = V0
    have hk0 : ∀ k, k < w27.heap.size → V0.heap[k]? = w27.heap[k]? := fun k hk => by rw [← hV0]; exact Below.heap_alloc _ _ k hk
    have T0 : Three w.heap.size gL (.slice Ao28 t109.length co28) (.slice Ao29 t113.length co29) (.slice Ao31 t120.length co31) t109.length t113.length t120.length t109 t113 t120 V0 := by
     refine ⟨?_, ?_, ?_, ?_⟩
     ·exact la_low (Kd.own_of_R HO111.out) hk0
     ·exact la_low (Kd.own_of_R HO115.out) hk0
     ·exact la_low (Kd.own_of_R HO122.out) hk0
     ·rw [← hV0, ← hgL]; exact World.alloc_heap_new _ _
    have BV0 : Below w.heap.size w V0 := by rw [← hV0]; exact below_alloc (pw_below_drewN HB.out _) _
    have hs0 : gL < V0.heap.size := by rw [← hgL, ← hV0]; simp [World.drewN]
    have LT0 : ∀ g, (.slice Ao28 t109.length co28 : Value).ownBlock = some g → g < gL := fun g hg => by rw [← hgL]; exact la_lt (Kd.own_of_R HO111.out) g hg
    have AP01 : ∀ g, (.slice Ao28 t109.length co28 : Value).ownBlock = some g → (.slice Ao29 t113.length co29 : Value).ownBlock ≠ some g := fun g hg he => by have := HO111.out.1 g hg; simp only [he, ne_eq, not_true, and_false, false_and] at this
    have AP02 : ∀ g, (.slice Ao28 t109.length co28 : Value).ownBlock = some g → (.slice Ao31 t120.length co31 : Value).ownBlock ≠ some g := fun g hg he => by have := HO111.out.1 g hg; simp only [he, ne_eq, not_true, and_false, false_and] at this
    have LT1 : ∀ g, (.slice Ao29 t113.length co29 : Value).ownBlock = some g → g < gL := fun g hg => by rw [← hgL]; exact la_lt (Kd.own_of_R HO115.out) g hg
    have AP10 : ∀ g, (.slice Ao29 t113.length co29 : Value).ownBlock = some g → (.slice Ao28 t109.length co28 : Value).ownBlock ≠ some g := fun g hg he => by have := HO115.out.1 g hg; simp only [he, ne_eq, not_true, and_false, false_and] at this
    have AP12 : ∀ g, (.slice Ao29 t113.length co29 : Value).ownBlock = some g → (.slice Ao31 t120.length co31 : Value).ownBlock ≠ some g := fun g hg he => by have := HO115.out.1 g hg; simp only [he, ne_eq, not_true, and_false, false_and] at this
    have LT2 : ∀ g, (.slice Ao31 t120.length co31 : Value).ownBlock = some g → g < gL := fun g hg => by rw [← hgL]; exact la_lt (Kd.own_of_R HO122.out) g hg
    have AP20 : ∀ g, (.slice Ao31 t120.length co31 : Value).ownBlock = some g → (.slice Ao28 t109.length co28 : Value).ownBlock ≠ some g := fun g hg he => by have := HO122.out.1 g hg; simp only [he, ne_eq, not_true, and_false, false_and] at this
    have AP21 : ∀ g, (.slice Ao31 t120.length co31 : Value).ownBlock = some g → (.slice Ao29 t113.length co29 : Value).ownBlock ≠ some g := fun g hg he => by have := HO122.out.1 g hg; simp only [he, ne_eq, not_true, and_false, false_and] at this
    rw [hgL]
    rw [hgL] at hgL0
    have HWL := Aside0.mk hgL0
    clear hV0 hk0 hgL0 hgL
    have TT := Aside0.mk T0
    have BB := Aside0.mk (And.intro BV0 hs0)
    clear T0 BV0 hs0
    have LA0 := Aside0.mk LT0; have AQ01 := Aside0.mk AP01; have AQ02 := Aside0.mk AP02; clear LT0 AP01 AP02
    have LA1 := Aside0.mk LT1; have AQ10 := Aside0.mk AP10; have AQ12 := Aside0.mk AP12; clear LT1 AP10 AP12
    have LA2 := Aside0.mk LT2; have AQ20 := Aside0.mk AP20; have AQ21 := Aside0.mk AP21; clear LT2 AP20 AP21
    have HN := Aside0.mk hbound
    clear hbound
    refine wp_loop_rounds 4 ?_
    rw [rounds_succ]
    go_wp2
    go_loopg [15] (t109.length + 1) (fun kq v15 wr => ∃ j : Nat, v15 = .int .i64 (j : Int) ∧ Aside0 (j + kq = t109.length + 1 ∧ j ≤ t109.length) ∧ Aside0 (∃ xs : List Int, Three w.heap.size gL (.slice Ao28 t109.length co28) (.slice Ao29 t113.length co29) (.slice Ao31 t120.length co31) t109.length t113.length t120.length xs t113 t120 wr ∧ ∀ m, m < j → xs[m]? = some (-10)) ∧ Aside0 (Below w.heap.size w wr ∧ gL < wr.heap.size))
    case atStart => exact ⟨0, rfl, ⟨by omega, by omega⟩, ⟨t109, TT.out, fun m h => absurd h (by omega)⟩, BB⟩
    case round =>
     clear TT BB
     obtain ⟨j, rfl, HJ, HX, HBw⟩ := hrel
     obtain ⟨hj1, hj2⟩ := HJ.out
     by_cases hj : j < t109.length
     case' neg =>
      obtain ⟨xs, T1, hfill⟩ := HX.out
      have cl := T1.cells
      have cl0 := cl.1
      clear cl
      have d1 : ¬ ((j : Int) < (t109.length : Int)) := by omega
      obtain rfl := la_full (la_len T1.a) (fun m hm => hfill m (by omega))
      have TT := Aside0.mk T1
      have BB := HBw
      clear T1 HX HBw hfill HJ
     case pos =>
      obtain ⟨xs, T1, hfill⟩ := HX.out
      obtain ⟨g, cap, z, hge, hgb, hz, hcz, hfz⟩ := la_at T1.a hj
      have hlen := la_len T1.a
      injection hge with ea en ec
      subst ea
      subst ec
      have hgl : g < gL := LA0.out g rfl
      have cl := T1.cells
      have cl0 := cl.1
      have HH := Aside0.mk (And.intro hfill hlen)
      have HT := Aside0.mk T1
      have d1 : (j : Int) < (t109.length : Int) := by omega
      clear en cl hfill hlen T1 HX
      go_wp2
      go_roundg (t109.length - j)
      case measure => omega
      case rel =>
       obtain ⟨hfill, hlen⟩ := HH.out
       have T1 := HT.out
       have hbd := HN.out
       refine ⟨j + 1, ?_, ⟨by omega, by omega⟩, ⟨xs.set j (-10), ⟨la_put T1.a j (-10), la_put_far T1.b (AQ01.out g rfl) _, la_put_far T1.c (AQ02.out g rfl) _, (Below.heap_setCell wr ⟨g, j, none⟩ _ gL (by simp; omega)).trans T1.l⟩, la_fill (by omega) hfill⟩, ⟨HBw.out.1.setCell (p := ⟨g, j, none⟩) hgb _, by simpa using HBw.out.2⟩⟩
       rw [show wrap64 ((j : Int) + 1) = ((j + 1 : Nat) : Int) by unfold wrap64; omega]
     go_wp2
     rw [rounds_succ]
     go_wp2
     go_loopg [15] (t113.length + 1) (fun kq v15 wr => ∃ j : Nat, v15 = .int .i64 (j : Int) ∧ Aside0 (j + kq = t113.length + 1 ∧ j ≤ t113.length) ∧ Aside0 (∃ xs : List Int, Three w.heap.size gL (.slice Ao28 t109.length co28) (.slice Ao29 t113.length co29) (.slice Ao31 t120.length co31) t109.length t113.length t120.length (List.replicate t109.length (-10)) xs t120 wr ∧ ∀ m, m < j → xs[m]? = some (-11)) ∧ Aside0 (Below w.heap.size w wr ∧ gL < wr.heap.size))
     case atStart => exact ⟨0, rfl, ⟨by omega, by omega⟩, ⟨t113, TT.out, fun m h => absurd h (by omega)⟩, BB⟩
     case round =>
      clear TT BB
      obtain ⟨j, rfl, HJ, HX, HBw⟩ := hrel
      obtain ⟨hj1, hj2⟩ := HJ.out
      by_cases hj : j < t113.length
      case' neg =>
       obtain ⟨xs, T1, hfill⟩ := HX.out
       have cl := T1.cells
       have cl0 := cl.2.1
       clear cl
       have d1 : ¬ ((j : Int) < (t113.length : Int)) := by omega
       obtain rfl := la_full (la_len T1.b) (fun m hm => hfill m (by omega))
       have TT := Aside0.mk T1
       have BB := HBw
       clear T1 HX HBw hfill HJ
      case pos =>
       obtain ⟨xs, T1, hfill⟩ := HX.out
       obtain ⟨g, cap, z, hge, hgb, hz, hcz, hfz⟩ := la_at T1.b hj
       have hlen := la_len T1.b
       injection hge with ea en ec
       subst ea
       subst ec
       have hgl : g < gL := LA1.out g rfl
       have cl := T1.cells
       have cl0 := cl.2.1
       have HH := Aside0.mk (And.intro hfill hlen)
       have HT := Aside0.mk T1
       have d1 : (j : Int) < (t113.length : Int) := by omega
       clear en cl hfill hlen T1 HX
       go_wp2
       go_roundg (t113.length - j)
       case measure => omega
       case rel =>
        obtain ⟨hfill, hlen⟩ := HH.out
        have T1 := HT.out
        have hbd := HN.out
        refine ⟨j + 1, ?_, ⟨by omega, by omega⟩, ⟨xs.set j (-11), ⟨la_put_far T1.a (AQ10.out g rfl) _, la_put T1.b j (-11), la_put_far T1.c (AQ12.out g rfl) _, (Below.heap_setCell wr ⟨g, j, none⟩ _ gL (by simp; omega)).trans T1.l⟩, la_fill (by omega) hfill⟩, ⟨HBw.out.1.setCell (p := ⟨g, j, none⟩) hgb _, by simpa using HBw.out.2⟩⟩
        rw [show wrap64 ((j : Int) + 1) = ((j + 1 : Nat) : Int) by unfold wrap64; omega]
      go_wp2
      rw [rounds_succ]
      go_wp2
      go_loopg [15] (t120.length + 1) (fun kq v15 wr => ∃ j : Nat, v15 = .int .i64 (j : Int) ∧ Aside0 (j + kq = t120.length + 1 ∧ j ≤ t120.length) ∧ Aside0 (∃ xs : List Int, Three w.heap.size gL (.slice Ao28 t109.length co28) (.slice Ao29 t113.length co29) (.slice Ao31 t120.length co31) t109.length t113.length t120.length (List.replicate t109.length (-10)) (List.replicate t113.length (-11)) xs wr ∧ ∀ m, m < j → xs[m]? = some (-12)) ∧ Aside0 (Below w.heap.size w wr ∧ gL < wr.heap.size))
      case atStart => exact ⟨0, rfl, ⟨by omega, by omega⟩, ⟨t120, TT.out, fun m h => absurd h (by omega)⟩, BB⟩
      case round =>
       clear TT BB
       obtain ⟨j, rfl, HJ, HX, HBw⟩ := hrel
       obtain ⟨hj1, hj2⟩ := HJ.out
       by_cases hj : j < t120.length
       case' neg =>
        obtain ⟨xs, T1, hfill⟩ := HX.out
        have cl := T1.cells
        have cl0 := cl.2.2
        clear cl
        have d1 : ¬ ((j : Int) < (t120.length : Int)) := by omega
        obtain rfl := la_full (la_len T1.c) (fun m hm => hfill m (by omega))
        have TT := Aside0.mk T1
        have BB := HBw
        clear T1 HX HBw hfill HJ
       case pos =>
        obtain ⟨xs, T1, hfill⟩ := HX.out
        obtain ⟨g, cap, z, hge, hgb, hz, hcz, hfz⟩ := la_at T1.c hj
        have hlen := la_len T1.c
        injection hge with ea en ec
        subst ea
        subst ec
        have hgl : g < gL := LA2.out g rfl
        have cl := T1.cells
        have cl0 := cl.2.2
        have HH := Aside0.mk (And.intro hfill hlen)
        have HT := Aside0.mk T1
        have d1 : (j : Int) < (t120.length : Int) := by omega
        clear en cl hfill hlen T1 HX
        go_wp2
        go_roundg (t120.length - j)
        case measure => omega
        case rel =>
         obtain ⟨hfill, hlen⟩ := HH.out
         have T1 := HT.out
         have hbd := HN.out
         refine ⟨j + 1, ?_, ⟨by omega, by omega⟩, ⟨xs.set j (-12), ⟨la_put_far T1.a (AQ20.out g rfl) _, la_put_far T1.b (AQ21.out g rfl) _, la_put T1.c j (-12), (Below.heap_setCell wr ⟨g, j, none⟩ _ gL (by simp; omega)).trans T1.l⟩, la_fill (by omega) hfill⟩, ⟨HBw.out.1.setCell (p := ⟨g, j, none⟩) hgb _, by simpa using HBw.out.2⟩⟩
         rw [show wrap64 ((j : Int) + 1) = ((j + 1 : Nat) : Int) by unfold wrap64; omega]
       go_wp2
       rw [rounds_succ]
       go_wp2
       have P2 : Ph2 w.heap.size gL (.slice Ao28 t109.length co28) (.slice Ao29 t113.length co29) (.slice Ao31 t120.length co31) t109.length t113.length t120.length (.slice none 0 0) [] wr := ⟨TT.out, by simp, World.ownsRow_nil _ _ _ _⟩
       have PP := Aside0.mk P2
       clear P2
       obtain ⟨i45, hi45, hz45, hs45, hb45⟩ := info_parts la_info45
       have I45 := Aside0.mk hi45; have J45 := Aside0.mk hz45; have K45 := Aside0.mk hs45; have L45 := Aside0.mk hb45
       clear hi45 hz45 hs45 hb45
       obtain ⟨U0, hU0⟩ : ∃ U, U = wr := ⟨_, rfl⟩
       subst hU0
       refine wp_loop_rounds 4 ?_
       rw [rounds_succ]
       have cl := PP.out.t.cells
       have cl0 := cl.1
       clear cl
       go_wp2
       have hSU : gL < U0.heap.size := BB.out.2
       go_loopg [18, 19] 41 (fun kq v18 v19 w' => ∃ (j : Nat) (x : Value), v18 = x ∧ v19 = .int .i64 (j : Int) ∧ Aside0 (j + kq = 41 ∧ j ≤ 40) ∧ Aside0 (w'.ownsRow w.heap.size 3 1 x (t109.length + j) ((List.replicate (t109.length + j) (-10)).map (Value.int .i64)) ∧ ∀ g, x.ownBlock = some g → (.slice Ao28 t109.length co28 : Value).ownBlock = some g ∨ U0.heap.size ≤ g) ∧ Aside0 (Ph2 w.heap.size gL (.slice Ao28 t109.length co28) (.slice Ao29 t113.length co29) (.slice Ao31 t120.length co31) t109.length t113.length t120.length (.slice none 0 0) [] w') ∧ Aside0 (Below w.heap.size w w' ∧ U0.heap.size ≤ w'.heap.size))
       case atStart => exact ⟨0, _, rfl, rfl, ⟨by omega, by omega⟩, ⟨PP.out.t.a, fun g hg => .inl hg⟩, PP, ⟨BB.out.1, Nat.le_refl _⟩⟩
       case round =>
        obtain ⟨j, x, hx18, rfl, HJ, HR, HP, HBw⟩ := hrel
        have hx19 := hx18.symm
        subst hx19
        clear hx18 cl0 PP BB
        obtain ⟨hj1, hj2⟩ := HJ.out
        have HBD := HN
        by_cases hj : j < 40
        case pos =>
         have d1 : (j : Int) < 40 := by omega
         have hal : ∀ k, k < wr.heap.size → (wr.alloc (.cells #[.int .i64 (-10)] 3)).heap[k]? = wr.heap[k]? := fun k hk => Below.heap_alloc wr _ k hk
         have HAL := Aside0.mk hal
         clear hal
         go_wp2_with (at_builtin; go_loud (refine wpList_la _ rfl _ _ rfl w.heap.size (t109.length + j) x ((List.replicate (t109.length + j) (-10)).map (Value.int .i64)) rfl (la_low HR.out.1 HAL.out) ⟨wr.heap.size, 0, none⟩ (.int .i64 (-10)) 1 rfl (la_new _ _ _) rfl (by have := HN.out; simp only [maxLen]; omega) (by have := HN.out; omega) (by have := HBw.out.1.size; simp; omega) ?_; intro v' w1 hown' hgrow hat hK; have HO' := Aside0.mk hown'; have HG' := Aside0.mk hgrow; have HT' := Aside0.mk hat; have HK' := Aside0.mk hK; clear hown' hgrow hat hK))
         go_roundg (40 - j)
         case measure => omega
         case rel =>
          have hal := HAL.out
          have hsz := HG'.out.size
          refine ⟨j + 1, v', rfl, ?_, ⟨by omega, by omega⟩, ⟨?_, ?_⟩, ⟨?_⟩, ⟨?_⟩⟩
          ·first | rw [show wrap64 ((j : Int) + 1) = ((j + 1 : Nat) : Int) by unfold wrap64; omega] | rfl | (simp; done)
          ·have := HO'.out; rw [← la_rep] at this; exact this
          ·intro g hg
           rcases HT'.out with h | h
           ·exact HR.out.2 g (h ▸ hg)
           ·rw [h] at hg; have := HBw.out.2; simp at hg; omega
          ·exact (HP.out.low hal).append (la_low HR.out.1 hal) HG'.out HK'.out (fun _ => by omega) (la_cond (n := t109.length + j) (la_low HP.out.t.b hal) (fun g hg he => (HR.out.2 g hg).elim (fun h => AQ01.out g h he) (fun h => by have := LA1.out g he; have := hSU; omega))) (la_cond (n := t109.length + j) (la_low HP.out.t.c hal) (fun g hg he => (HR.out.2 g hg).elim (fun h => AQ02.out g h he) (fun h => by have := LA2.out g he; have := hSU; omega))) (by intro p hp; simp at hp) (fun e => (HR.out.2 gL e).elim (fun h => by have := LA0.out gL h; omega) (fun h => by omega))
          ·exact ⟨((HBw.out.1.alloc HBw.out.1.size _).grown HG'.out (by have := HBw.out.1.size; simp; omega) (fun k hk => la_base HR.out.1 k hk)), by have := HBw.out.2; simp at hsz; omega⟩
        case neg =>
         obtain rfl : j = 40 := by omega
         have d1 : ¬ (((40 : Nat) : Int) < 40) := by omega
         obtain ⟨gx0, cx0, hxf⟩ := la_form HR.out.1 (by omega)
         subst hxf
         have HAL := Aside0.mk (show ∀ k, k < wr.heap.size → (wr.alloc (.cells #[.slice (some ⟨gx0, 0, none⟩) (t109.length + 40) cx0] 45)).heap[k]? = wr.heap[k]? from fun k hk => Below.heap_alloc wr _ k hk)
         clear HJ
         go_wp2_with (at_builtin; refine wpList_append_own_at _ rfl _ _ 73 rfl (gL + 1) 45 i45 (.slice none 0 0) 1 24 Tryd.underlying73 I45.out J45.out K45.out L45.out rfl (by decide) _ 0 ([]) rfl (la_low HP.out.g HAL.out) ⟨wr.heap.size, 0, none⟩ 1 1 [.slice (some ⟨gx0, 0, none⟩) (t109.length + 40) cx0] rfl rfl (by intro q u hq; cases q with | zero => simp at hq; subst hq; simp [Addr.add, la_new] | succ q => simp at hq) (by intro u hu; simp at hu; subst hu; rfl) (by simp only [maxLen]; omega) (by omega) (by have := HBw.out.2; simp; omega) ?_; intro v' w1 hown' hgrow _ _; replace hown' : w1.ownsRow (gL + 1) 45 1 v' 1 _ := hown'; obtain ⟨gg0, cg0, hgf⟩ := la_form hown' (by omega); subst hgf; have HO' := Aside0.mk hown'; have HG' := Aside0.mk hgrow; clear hown' hgrow)
         have hsz := HG'.out.size
         have hxlt := la_lt HR.out.1
         have P2 : Ph2 w.heap.size gL (.slice Ao28 t109.length co28) (.slice Ao29 t113.length co29) (.slice Ao31 t120.length co31) t109.length t113.length t120.length (.slice (some ⟨gg0, 0, none⟩) 1 cg0) [(.slice (some ⟨gx0, 0, none⟩) (t109.length + 40) cx0, t109.length + 40, (-10))] w1 := (HP.out.low HAL.out).grown (la_low HR.out.1 HAL.out) HG'.out HO'.out
         have PP := Aside0.mk P2
         have hB2 : Below w.heap.size w w1 ∧ gL < w1.heap.size := ⟨(HBw.out.1.alloc HBw.out.1.size _).grown HG'.out (by have := HBw.out.1.size; simp; omega) (fun k hk => by have := la_base HP.out.g k hk; have := HWL.out; omega), by have := HBw.out.2; simp at hsz; omega⟩
         have BB := Aside0.mk hB2
         have hU : U0.heap.size ≤ w1.heap.size := by have := HBw.out.2; simp at hsz; omega
         have XB0 : Aside0 (∀ g, (.slice (some ⟨gx0, 0, none⟩) (t109.length + 40) cx0 : Value).ownBlock = some g → ((.slice Ao28 t109.length co28 : Value).ownBlock = some g ∨ gL < g) ∧ g < w1.heap.size) := ⟨fun g hg => ⟨(HR.out.2 g hg).imp id (fun h => by omega), by have := hxlt g hg; simp at hsz; omega⟩⟩
         clear P2 hB2 hU hsz hxlt HR HP HBw HAL HO' HG'
         obtain ⟨U1, hU1⟩ : ∃ U, U = w1 := ⟨_, rfl⟩
         subst hU1
         rw [rounds_succ]
         have cl := PP.out.t.cells
         have cl0 := cl.2.1
         clear cl
         go_wp2
         have hSU : gL < U1.heap.size := BB.out.2
         go_loopg [18, 19] 41 (fun kq v18 v19 w' => ∃ (j : Nat) (x : Value), v18 = x ∧ v19 = .int .i64 (j : Int) ∧ Aside0 (j + kq = 41 ∧ j ≤ 40) ∧ Aside0 (w'.ownsRow w.heap.size 3 1 x (t113.length + j) ((List.replicate (t113.length + j) (-11)).map (Value.int .i64)) ∧ ∀ g, x.ownBlock = some g → (.slice Ao29 t113.length co29 : Value).ownBlock = some g ∨ U1.heap.size ≤ g) ∧ Aside0 (Ph2 w.heap.size gL (.slice Ao28 t109.length co28) (.slice Ao29 t113.length co29) (.slice Ao31 t120.length co31) t109.length t113.length t120.length (.slice (some ⟨gg0, 0, none⟩) 1 cg0) [(.slice (some ⟨gx0, 0, none⟩) (t109.length + 40) cx0, t109.length + 40, (-10))] w') ∧ Aside0 (Below w.heap.size w w' ∧ U1.heap.size ≤ w'.heap.size))
         case atStart => exact ⟨0, _, rfl, rfl, ⟨by omega, by omega⟩, ⟨PP.out.t.b, fun g hg => .inl hg⟩, PP, ⟨BB.out.1, Nat.le_refl _⟩⟩
         case round =>
          obtain ⟨j, x, hx18, rfl, HJ, HR, HP, HBw⟩ := hrel
          have hx19 := hx18.symm
          subst hx19
          clear hx18 cl0 PP BB
          obtain ⟨hj1, hj2⟩ := HJ.out
          have HBD := HN
          by_cases hj : j < 40
          case pos =>
           have d1 : (j : Int) < 40 := by omega
           have hal : ∀ k, k < wr.heap.size → (wr.alloc (.cells #[.int .i64 (-11)] 3)).heap[k]? = wr.heap[k]? := fun k hk => Below.heap_alloc wr _ k hk
           have HAL := Aside0.mk hal
           clear hal
           go_wp2_with (at_builtin; go_loud (refine wpList_la _ rfl _ _ rfl w.heap.size (t113.length + j) x ((List.replicate (t113.length + j) (-11)).map (Value.int .i64)) rfl (la_low HR.out.1 HAL.out) ⟨wr.heap.size, 0, none⟩ (.int .i64 (-11)) 1 rfl (la_new _ _ _) rfl (by have := HN.out; simp only [maxLen]; omega) (by have := HN.out; omega) (by have := HBw.out.1.size; simp; omega) ?_; intro v' w1 hown' hgrow hat hK; have HO' := Aside0.mk hown'; have HG' := Aside0.mk hgrow; have HT' := Aside0.mk hat; have HK' := Aside0.mk hK; clear hown' hgrow hat hK))
           go_roundg (40 - j)
           case measure => omega
           case rel =>
            have hal := HAL.out
            have hsz := HG'.out.size
            refine ⟨j + 1, v', rfl, ?_, ⟨by omega, by omega⟩, ⟨?_, ?_⟩, ⟨?_⟩, ⟨?_⟩⟩
            ·first | rw [show wrap64 ((j : Int) + 1) = ((j + 1 : Nat) : Int) by unfold wrap64; omega] | rfl | (simp; done)
            ·have := HO'.out; rw [← la_rep] at this; exact this
            ·intro g hg
             rcases HT'.out with h | h
             ·exact HR.out.2 g (h ▸ hg)
             ·rw [h] at hg; have := HBw.out.2; simp at hg; omega
            ·exact (HP.out.low hal).append (la_low HR.out.1 hal) HG'.out HK'.out (la_cond (n := t113.length + j) (la_low HP.out.t.a hal) (fun g hg he => (HR.out.2 g hg).elim (fun h => AQ10.out g h he) (fun h => by have := LA0.out g he; have := hSU; omega))) (fun _ => by omega) (la_cond (n := t113.length + j) (la_low HP.out.t.c hal) (fun g hg he => (HR.out.2 g hg).elim (fun h => AQ12.out g h he) (fun h => by have := LA2.out g he; have := hSU; omega))) (by intro p hp; simp at hp; subst hp; exact la_cond (n := t113.length + j) (la_low (HP.out.x _ (by simp)) hal) (fun g hg he => (HR.out.2 g hg).elim (fun h => (XB0.out g he).1.elim (fun hq1 => AQ01.out g hq1 h) (fun hq1 => by have := LA1.out g h; omega)) (fun h => by have hq := XB0.out g he; omega))) (fun e => (HR.out.2 gL e).elim (fun h => by have := LA1.out gL h; omega) (fun h => by omega))
            ·exact ⟨((HBw.out.1.alloc HBw.out.1.size _).grown HG'.out (by have := HBw.out.1.size; simp; omega) (fun k hk => la_base HR.out.1 k hk)), by have := HBw.out.2; simp at hsz; omega⟩
          case neg =>
           obtain rfl : j = 40 := by omega
           have d1 : ¬ (((40 : Nat) : Int) < 40) := by omega
           obtain ⟨gx1, cx1, hxf⟩ := la_form HR.out.1 (by omega)
           subst hxf
           have HAL := Aside0.mk (show ∀ k, k < wr.heap.size → (wr.alloc (.cells #[.slice (some ⟨gx1, 0, none⟩) (t113.length + 40) cx1] 45)).heap[k]? = wr.heap[k]? from fun k hk => Below.heap_alloc wr _ k hk)
           clear HJ
           go_wp2_with (at_builtin; refine wpList_append_own_at _ rfl _ _ 73 rfl (gL + 1) 45 i45 (.slice none 0 0) 1 24 Tryd.underlying73 I45.out J45.out K45.out L45.out rfl (by decide) _ 1 ([(.slice (some ⟨gx0, 0, none⟩) (t109.length + 40) cx0 : Value)]) rfl (la_low HP.out.g HAL.out) ⟨wr.heap.size, 0, none⟩ 1 1 [.slice (some ⟨gx1, 0, none⟩) (t113.length + 40) cx1] rfl rfl (by intro q u hq; cases q with | zero => simp at hq; subst hq; simp [Addr.add, la_new] | succ q => simp at hq) (by intro u hu; simp at hu; subst hu; rfl) (by simp only [maxLen]; omega) (by omega) (by have := HBw.out.2; simp; omega) ?_; intro v' w1 hown' hgrow _ _; replace hown' : w1.ownsRow (gL + 1) 45 1 v' 2 _ := hown'; obtain ⟨gg1, cg1, hgf⟩ := la_form hown' (by omega); subst hgf; have HO' := Aside0.mk hown'; have HG' := Aside0.mk hgrow; clear hown' hgrow)
           have hsz := HG'.out.size
           have hxlt := la_lt HR.out.1
           have P2 : Ph2 w.heap.size gL (.slice Ao28 t109.length co28) (.slice Ao29 t113.length co29) (.slice Ao31 t120.length co31) t109.length t113.length t120.length (.slice (some ⟨gg1, 0, none⟩) 2 cg1) [(.slice (some ⟨gx0, 0, none⟩) (t109.length + 40) cx0, t109.length + 40, (-10)), (.slice (some ⟨gx1, 0, none⟩) (t113.length + 40) cx1, t113.length + 40, (-11))] w1 := (HP.out.low HAL.out).grown (la_low HR.out.1 HAL.out) HG'.out HO'.out
           have PP := Aside0.mk P2
           have hB2 : Below w.heap.size w w1 ∧ gL < w1.heap.size := ⟨(HBw.out.1.alloc HBw.out.1.size _).grown HG'.out (by have := HBw.out.1.size; simp; omega) (fun k hk => by have := la_base HP.out.g k hk; have := HWL.out; omega), by have := HBw.out.2; simp at hsz; omega⟩
           have BB := Aside0.mk hB2
           have hU : U1.heap.size ≤ w1.heap.size := by have := HBw.out.2; simp at hsz; omega
           have XB1 : Aside0 (∀ g, (.slice (some ⟨gx1, 0, none⟩) (t113.length + 40) cx1 : Value).ownBlock = some g → ((.slice Ao29 t113.length co29 : Value).ownBlock = some g ∨ gL < g) ∧ g < w1.heap.size) := ⟨fun g hg => ⟨(HR.out.2 g hg).imp id (fun h => by omega), by have := hxlt g hg; simp at hsz; omega⟩⟩
           have XB0 : Aside0 (∀ g, (.slice (some ⟨gx0, 0, none⟩) (t109.length + 40) cx0 : Value).ownBlock = some g → ((.slice Ao28 t109.length co28 : Value).ownBlock = some g ∨ gL < g) ∧ g < w1.heap.size) := ⟨fun g hg => ⟨(XB0.out g hg).1, by have := (XB0.out g hg).2; omega⟩⟩
           clear P2 hB2 hU hsz hxlt HR HP HBw HAL HO' HG'
           obtain ⟨U2, hU2⟩ : ∃ U, U = w1 := ⟨_, rfl⟩
           subst hU2
           rw [rounds_succ]
           have cl := PP.out.t.cells
           have cl0 := cl.2.2
           clear cl
           go_wp2
           have hSU : gL < U2.heap.size := BB.out.2
           go_loopg [18, 19] 41 (fun kq v18 v19 w' => ∃ (j : Nat) (x : Value), v18 = x ∧ v19 = .int .i64 (j : Int) ∧ Aside0 (j + kq = 41 ∧ j ≤ 40) ∧ Aside0 (w'.ownsRow w.heap.size 3 1 x (t120.length + j) ((List.replicate (t120.length + j) (-12)).map (Value.int .i64)) ∧ ∀ g, x.ownBlock = some g → (.slice Ao31 t120.length co31 : Value).ownBlock = some g ∨ U2.heap.size ≤ g) ∧ Aside0 (Ph2 w.heap.size gL (.slice Ao28 t109.length co28) (.slice Ao29 t113.length co29) (.slice Ao31 t120.length co31) t109.length t113.length t120.length (.slice (some ⟨gg1, 0, none⟩) 2 cg1) [(.slice (some ⟨gx0, 0, none⟩) (t109.length + 40) cx0, t109.length + 40, (-10)), (.slice (some ⟨gx1, 0, none⟩) (t113.length + 40) cx1, t113.length + 40, (-11))] w') ∧ Aside0 (Below w.heap.size w w' ∧ U2.heap.size ≤ w'.heap.size))
           case atStart => exact ⟨0, _, rfl, rfl, ⟨by omega, by omega⟩, ⟨PP.out.t.c, fun g hg => .inl hg⟩, PP, ⟨BB.out.1, Nat.le_refl _⟩⟩
           case round =>
            obtain ⟨j, x, hx18, rfl, HJ, HR, HP, HBw⟩ := hrel
            have hx19 := hx18.symm
            subst hx19
            clear hx18 cl0 PP BB
            obtain ⟨hj1, hj2⟩ := HJ.out
            have HBD := HN
            by_cases hj : j < 40
            case pos =>
             have d1 : (j : Int) < 40 := by omega
             have hal : ∀ k, k < wr.heap.size → (wr.alloc (.cells #[.int .i64 (-12)] 3)).heap[k]? = wr.heap[k]? := fun k hk => Below.heap_alloc wr _ k hk
             have HAL := Aside0.mk hal
             clear hal
             go_wp2_with (at_builtin; go_loud (refine wpList_la _ rfl _ _ rfl w.heap.size (t120.length + j) x ((List.replicate (t120.length + j) (-12)).map (Value.int .i64)) rfl (la_low HR.out.1 HAL.out) ⟨wr.heap.size, 0, none⟩ (.int .i64 (-12)) 1 rfl (la_new _ _ _) rfl (by have := HN.out; simp only [maxLen]; omega) (by have := HN.out; omega) (by have := HBw.out.1.size; simp; omega) ?_; intro v' w1 hown' hgrow hat hK; have HO' := Aside0.mk hown'; have HG' := Aside0.mk hgrow; have HT' := Aside0.mk hat; have HK' := Aside0.mk hK; clear hown' hgrow hat hK))
             go_roundg (40 - j)
             case measure => omega
             case rel =>
              have hal := HAL.out
              have hsz := HG'.out.size
              refine ⟨j + 1, v', rfl, ?_, ⟨by omega, by omega⟩, ⟨?_, ?_⟩, ⟨?_⟩, ⟨?_⟩⟩
              ·first | rw [show wrap64 ((j : Int) + 1) = ((j + 1 : Nat) : Int) by unfold wrap64; omega] | rfl | (simp; done)
              ·have := HO'.out; rw [← la_rep] at this; exact this
              ·intro g hg
               rcases HT'.out with h | h
               ·exact HR.out.2 g (h ▸ hg)
               ·rw [h] at hg; have := HBw.out.2; simp at hg; omega
              ·exact (HP.out.low hal).append (la_low HR.out.1 hal) HG'.out HK'.out (la_cond (n := t120.length + j) (la_low HP.out.t.a hal) (fun g hg he => (HR.out.2 g hg).elim (fun h => AQ20.out g h he) (fun h => by have := LA0.out g he; have := hSU; omega))) (la_cond (n := t120.length + j) (la_low HP.out.t.b hal) (fun g hg he => (HR.out.2 g hg).elim (fun h => AQ21.out g h he) (fun h => by have := LA1.out g he; have := hSU; omega))) (fun _ => by omega) (by intro p hp; simp at hp; exact hp.elim (fun hp => by subst hp; exact la_cond (n := t120.length + j) (la_low (HP.out.x _ (by simp)) hal) (fun g hg he => (HR.out.2 g hg).elim (fun h => (XB0.out g he).1.elim (fun hq1 => AQ02.out g hq1 h) (fun hq1 => by have := LA2.out g h; omega)) (fun h => by have hq := XB0.out g he; omega))) (fun hp => by subst hp; exact la_cond (n := t120.length + j) (la_low (HP.out.x _ (by simp)) hal) (fun g hg he => (HR.out.2 g hg).elim (fun h => (XB1.out g he).1.elim (fun hq1 => AQ12.out g hq1 h) (fun hq1 => by have := LA2.out g h; omega)) (fun h => by have hq := XB1.out g he; omega)))) (fun e => (HR.out.2 gL e).elim (fun h => by have := LA2.out gL h; omega) (fun h => by omega))
              ·exact ⟨((HBw.out.1.alloc HBw.out.1.size _).grown HG'.out (by have := HBw.out.1.size; simp; omega) (fun k hk => la_base HR.out.1 k hk)), by have := HBw.out.2; simp at hsz; omega⟩
            case neg =>
             obtain rfl : j = 40 := by omega
             have d1 : ¬ (((40 : Nat) : Int) < 40) := by omega
             obtain ⟨gx2, cx2, hxf⟩ := la_form HR.out.1 (by omega)
             subst hxf
             have HAL := Aside0.mk (show ∀ k, k < wr.heap.size → (wr.alloc (.cells #[.slice (some ⟨gx2, 0, none⟩) (t120.length + 40) cx2] 45)).heap[k]? = wr.heap[k]? from fun k hk => Below.heap_alloc wr _ k hk)
             clear HJ
             go_wp2_with (at_builtin; refine wpList_append_own_at _ rfl _ _ 73 rfl (gL + 1) 45 i45 (.slice none 0 0) 1 24 Tryd.underlying73 I45.out J45.out K45.out L45.out rfl (by decide) _ 2 ([(.slice (some ⟨gx0, 0, none⟩) (t109.length + 40) cx0 : Value), (.slice (some ⟨gx1, 0, none⟩) (t113.length + 40) cx1 : Value)]) rfl (la_low HP.out.g HAL.out) ⟨wr.heap.size, 0, none⟩ 1 1 [.slice (some ⟨gx2, 0, none⟩) (t120.length + 40) cx2] rfl rfl (by intro q u hq; cases q with | zero => simp at hq; subst hq; simp [Addr.add, la_new] | succ q => simp at hq) (by intro u hu; simp at hu; subst hu; rfl) (by simp only [maxLen]; omega) (by omega) (by have := HBw.out.2; simp; omega) ?_; intro v' w1 hown' hgrow _ _; replace hown' : w1.ownsRow (gL + 1) 45 1 v' 3 _ := hown'; obtain ⟨gg2, cg2, hgf⟩ := la_form hown' (by omega); subst hgf; have HO' := Aside0.mk hown'; have HG' := Aside0.mk hgrow; clear hown' hgrow)
             have hsz := HG'.out.size
             have hxlt := la_lt HR.out.1
             have P2 : Ph2 w.heap.size gL (.slice Ao28 t109.length co28) (.slice Ao29 t113.length co29) (.slice Ao31 t120.length co31) t109.length t113.length t120.length (.slice (some ⟨gg2, 0, none⟩) 3 cg2) [(.slice (some ⟨gx0, 0, none⟩) (t109.length + 40) cx0, t109.length + 40, (-10)), (.slice (some ⟨gx1, 0, none⟩) (t113.length + 40) cx1, t113.length + 40, (-11)), (.slice (some ⟨gx2, 0, none⟩) (t120.length + 40) cx2, t120.length + 40, (-12))] w1 := (HP.out.low HAL.out).grown (la_low HR.out.1 HAL.out) HG'.out HO'.out
             have PP := Aside0.mk P2
             have hB2 : Below w.heap.size w w1 ∧ gL < w1.heap.size := ⟨(HBw.out.1.alloc HBw.out.1.size _).grown HG'.out (by have := HBw.out.1.size; simp; omega) (fun k hk => by have := la_base HP.out.g k hk; have := HWL.out; omega), by have := HBw.out.2; simp at hsz; omega⟩
             have BB := Aside0.mk hB2
             have hU : U2.heap.size ≤ w1.heap.size := by have := HBw.out.2; simp at hsz; omega
             have XB2 : Aside0 (∀ g, (.slice (some ⟨gx2, 0, none⟩) (t120.length + 40) cx2 : Value).ownBlock = some g → ((.slice Ao31 t120.length co31 : Value).ownBlock = some g ∨ gL < g) ∧ g < w1.heap.size) := ⟨fun g hg => ⟨(HR.out.2 g hg).imp id (fun h => by omega), by have := hxlt g hg; simp at hsz; omega⟩⟩
             have XB0 : Aside0 (∀ g, (.slice (some ⟨gx0, 0, none⟩) (t109.length + 40) cx0 : Value).ownBlock = some g → ((.slice Ao28 t109.length co28 : Value).ownBlock = some g ∨ gL < g) ∧ g < w1.heap.size) := ⟨fun g hg => ⟨(XB0.out g hg).1, by have := (XB0.out g hg).2; omega⟩⟩
             have XB1 : Aside0 (∀ g, (.slice (some ⟨gx1, 0, none⟩) (t113.length + 40) cx1 : Value).ownBlock = some g → ((.slice Ao29 t113.length co29 : Value).ownBlock = some g ∨ gL < g) ∧ g < w1.heap.size) := ⟨fun g hg => ⟨(XB1.out g hg).1, by have := (XB1.out g hg).2; omega⟩⟩
             clear P2 hB2 hU hsz hxlt HR HP HBw HAL HO' HG'
             obtain ⟨U3, hU3⟩ : ∃ U, U = w1 := ⟨_, rfl⟩
             subst hU3
             rw [rounds_succ]
             go_wp2
             refine wp_loop_rounds 4 ?_
             rw [rounds_succ]
             have cl := PP.out.t.cells
             have cl0 := cl.1
             clear cl
             have cg := la_gr' PP.out.g (by simp) 0 (.slice (some ⟨gx0, 0, none⟩) (t109.length + 40) cx0) rfl
             go_wp2
             go_loopg [21] (t109.length + 41) (fun kq v21 w' => ∃ j : Nat, v21 = .int .i64 (j : Int) ∧ Aside0 (j + kq = t109.length + 41 ∧ j ≤ t109.length + 40) ∧ w' = U3)
             case atStart => exact ⟨0, rfl, ⟨by omega, by omega⟩, rfl⟩
             case round =>
              obtain ⟨j, rfl, HJ, hwr⟩ := hrel
              have hwr' := hwr.symm
              subst hwr'
              clear hwr
              obtain ⟨hj1, hj2⟩ := HJ.out
              by_cases hj : j < t109.length + 40
              case pos =>
               have d1 : (j : Int) < ((t109.length + 40 : Nat) : Int) := by omega
               have d1b : (j : Int) < (t109.length : Int) + 40 := by omega
               have hcx := la_lit (PP.out.x ((.slice (some ⟨gx0, 0, none⟩) (t109.length + 40) cx0, t109.length + 40, (-10))) (by simp)) hj
               have HW : Aside0 (wrap64 ((j : Int) + 1) = ((j + 1 : Nat) : Int)) := ⟨by have := HN.out; unfold wrap64; omega⟩
               by_cases hv : j < t109.length
               case pos =>
                have d2 : (j : Int) < (t109.length : Int) := by omega
                obtain ⟨gv, cv, z, hge, _, hz, hcv, _⟩ := la_at PP.out.t.a hv
                injection hge with ea en ec
                subst ea
                subst ec
                rw [List.getElem?_replicate, if_pos hv] at hz
                cases hz
                clear en
                go_wp2
                go_roundg (t109.length + 40 - j)
                case measure => omega
                case rel => exact ⟨j + 1, by first | rw [HW.out] | rfl | (simp; done), ⟨by omega, by omega⟩, rfl⟩
               case neg =>
                have d2 : ¬ ((j : Int) < (t109.length : Int)) := by omega
                go_wp2
                go_roundg (t109.length + 40 - j)
                case measure => omega
                case rel => exact ⟨j + 1, by first | rw [HW.out] | rfl | (simp; done), ⟨by omega, by omega⟩, rfl⟩
              case neg =>
               have d1 : ¬ ((j : Int) < ((t109.length + 40 : Nat) : Int)) := by omega
               have d1b : ¬ ((j : Int) < (t109.length : Int) + 40) := by omega
               clear hj hj1 hj2 HJ
               go_wp2
               rw [rounds_succ]
               clear d1 d1b cl0 cg
               have cl := PP.out.t.cells
               have cl0 := cl.2.1
               clear cl
               have cg := la_gr' PP.out.g (by simp) 1 (.slice (some ⟨gx1, 0, none⟩) (t113.length + 40) cx1) rfl
               go_wp2
               go_loopg [21] (t113.length + 41) (fun kq v21 w' => ∃ j : Nat, v21 = .int .i64 (j : Int) ∧ Aside0 (j + kq = t113.length + 41 ∧ j ≤ t113.length + 40) ∧ w' = U3)
               case atStart => exact ⟨0, rfl, ⟨by omega, by omega⟩, rfl⟩
               case round =>
                obtain ⟨j, rfl, HJ, hwr⟩ := hrel
                have hwr' := hwr.symm
                subst hwr'
                clear hwr
                obtain ⟨hj1, hj2⟩ := HJ.out
                by_cases hj : j < t113.length + 40
                case pos =>
                 have d1 : (j : Int) < ((t113.length + 40 : Nat) : Int) := by omega
                 have d1b : (j : Int) < (t113.length : Int) + 40 := by omega
                 have hcx := la_lit (PP.out.x ((.slice (some ⟨gx1, 0, none⟩) (t113.length + 40) cx1, t113.length + 40, (-11))) (by simp)) hj
                 have HW : Aside0 (wrap64 ((j : Int) + 1) = ((j + 1 : Nat) : Int)) := ⟨by have := HN.out; unfold wrap64; omega⟩
                 by_cases hv : j < t113.length
                 case pos =>
                  have d2 : (j : Int) < (t113.length : Int) := by omega
                  obtain ⟨gv, cv, z, hge, _, hz, hcv, _⟩ := la_at PP.out.t.b hv
                  injection hge with ea en ec
                  subst ea
                  subst ec
                  rw [List.getElem?_replicate, if_pos hv] at hz
                  cases hz
                  clear en
                  go_wp2
                  go_roundg (t113.length + 40 - j)
                  case measure => omega
                  case rel => exact ⟨j + 1, by first | rw [HW.out] | rfl | (simp; done), ⟨by omega, by omega⟩, rfl⟩
                 case neg =>
                  have d2 : ¬ ((j : Int) < (t113.length : Int)) := by omega
                  go_wp2
                  go_roundg (t113.length + 40 - j)
                  case measure => omega
                  case rel => exact ⟨j + 1, by first | rw [HW.out] | rfl | (simp; done), ⟨by omega, by omega⟩, rfl⟩
                case neg =>
                 have d1 : ¬ ((j : Int) < ((t113.length + 40 : Nat) : Int)) := by omega
                 have d1b : ¬ ((j : Int) < (t113.length : Int) + 40) := by omega
                 clear hj hj1 hj2 HJ
                 go_wp2
                 rw [rounds_succ]
                 clear d1 d1b cl0 cg
                 have cl := PP.out.t.cells
                 have cl0 := cl.2.2
                 clear cl
                 have cg := la_gr' PP.out.g (by simp) 2 (.slice (some ⟨gx2, 0, none⟩) (t120.length + 40) cx2) rfl
                 go_wp2
                 go_loopg [21] (t120.length + 41) (fun kq v21 w' => ∃ j : Nat, v21 = .int .i64 (j : Int) ∧ Aside0 (j + kq = t120.length + 41 ∧ j ≤ t120.length + 40) ∧ w' = U3)
                 case atStart => exact ⟨0, rfl, ⟨by omega, by omega⟩, rfl⟩
                 case round =>
                  obtain ⟨j, rfl, HJ, hwr⟩ := hrel
                  have hwr' := hwr.symm
                  subst hwr'
                  clear hwr
                  obtain ⟨hj1, hj2⟩ := HJ.out
                  by_cases hj : j < t120.length + 40
                  case pos =>
                   have d1 : (j : Int) < ((t120.length + 40 : Nat) : Int) := by omega
                   have d1b : (j : Int) < (t120.length : Int) + 40 := by omega
                   have hcx := la_lit (PP.out.x ((.slice (some ⟨gx2, 0, none⟩) (t120.length + 40) cx2, t120.length + 40, (-12))) (by simp)) hj
                   have HW : Aside0 (wrap64 ((j : Int) + 1) = ((j + 1 : Nat) : Int)) := ⟨by have := HN.out; unfold wrap64; omega⟩
                   by_cases hv : j < t120.length
                   case pos =>
                    have d2 : (j : Int) < (t120.length : Int) := by omega
                    obtain ⟨gv, cv, z, hge, _, hz, hcv, _⟩ := la_at PP.out.t.c hv
                    injection hge with ea en ec
                    subst ea
                    subst ec
                    rw [List.getElem?_replicate, if_pos hv] at hz
                    cases hz
                    clear en
                    go_wp2
                    go_roundg (t120.length + 40 - j)
                    case measure => omega
                    case rel => exact ⟨j + 1, by first | rw [HW.out] | rfl | (simp; done), ⟨by omega, by omega⟩, rfl⟩
                   case neg =>
                    have d2 : ¬ ((j : Int) < (t120.length : Int)) := by omega
                    go_wp2
                    go_roundg (t120.length + 40 - j)
                    case measure => omega
                    case rel => exact ⟨j + 1, by first | rw [HW.out] | rfl | (simp; done), ⟨by omega, by omega⟩, rfl⟩
                  case neg =>
                   have d1 : ¬ ((j : Int) < ((t120.length + 40 : Nat) : Int)) := by omega
                   have d1b : ¬ ((j : Int) < (t120.length : Int) + 40) := by omega
                   clear hj hj1 hj2 HJ
                   go_wp2
                   rw [rounds_succ]
                   clear d1 d1b cl0 cg
                   go_wp2
                   go_ret
                   exact ⟨by first | rfl | (simp; done) | (simp [*]; done), BB.out.1⟩
   ·replace c14 := Bool.eq_false_iff.mpr c14
    subst c14
    have H1 : (none) = some r := by rw [if_neg (show ¬ (false = true) by decide)] at H; exact H
    clear H
    have H := H1
    clear H1
    exact absurd H (by simp)
  ·replace c12 := Bool.eq_false_iff.mpr c12
   subst c12
   have H1 : (none) = some r := by rw [if_neg (show ¬ (false = true) by decide)] at H; exact H
   clear H
   have H := H1
   clear H1
   exact absurd H (by simp)
 ·replace c10 := Bool.eq_false_iff.mpr c10
  subst c10
  have H1 : (none) = some r := by rw [if_neg (show ¬ (false = true) by decide)] at H; exact H
  clear H
  have H := H1
  clear H1
  exact absurd H (by simp)

end Go.Proofs.YtdebllinaffceaaDoor.M
