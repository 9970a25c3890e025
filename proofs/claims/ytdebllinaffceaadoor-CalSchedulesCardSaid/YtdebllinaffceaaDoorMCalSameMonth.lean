import Derived.Test.YtdebllinaffceaaDoorVWords
import Derived.Test.YtdebllinaffceaaDoorMx0
import Derived.Test.YtdebllinaffceaaDoorMCalLength
import Derived.Test.YtdebllinaffceaaDoorMx1
import Derived.Test.YtdebllinaffceaaDoorMCalDate
namespace Go.Proofs.YtdebllinaffceaaDoor.M
open Go.RowKit Go.Proofs.YtdebllinaffceaaDoorW.PrintWords Go.Proofs.YtdebllinaffceaaDoorW.PrintLast Go.Proofs.YtdebllinaffceaaDoorW.PrintMore
attribute [local go_sem] max2_int min2_int max_two min_two max_three min_three max_four min_four   -- for this text's walks alone
set_option linter.unusedVariables false
set_option linter.unusedSimpArgs false

attribute [local go_sem high] eqA23
/-! ### cal_sameMonth: function 58 -/
def cal_sameMonth.f (k : Nat) (a0 : Int) (a1 : Int) : Option (Bool) := (cal_Date.f k a0).bind fun bt101 => ((cal_Date.f k a1).bind fun bt106 => (if bt101.2.2.2 = 0 then (if bt106.2.2.2 = 0 then (some (bt101.1 == bt106.1 && (bt101.2.1 == bt106.2.1))) else (some false)) else (some false)))
set_option maxHeartbeats 8000000 in
set_option maxRecDepth 100000 in
theorem cal_sameMonth.calls (k : Nat) (a0 : Int) (a1 : Int) (r : Bool) (w : World) (h : cal_sameMonth.f k a0 a1 = some r) (G0 : TabW w) :
  Calls Tryd.prog 58 #[.int .i64 a0, .int .i64 a1] w fun e w' => e = .returned (.bool r) ∧ Below w.heap.size w w' := by
 have GT := Aside0.mk G0
 clear G0
 have hu23 := Tryd.underlying23
 have HB := Aside0.mk (Below.refl w.heap.size w)
 have H : ((cal_Date.f k a0).bind fun bt101 => ((cal_Date.f k a1).bind fun bt106 => (if bt101.2.2.2 = 0 then (if bt106.2.2.2 = 0 then (some (bt101.1 == bt106.1 && (bt101.2.1 == bt106.2.1))) else (some false)) else (some false)))) = some r := h
 clear h
 replace H := Option.bind_eq_some_iff.mp H
 obtain ⟨⟨t101, t102, t103, t104⟩, A30, H⟩ := H
 replace H : ((cal_Date.f k a1).bind fun bt106 => (if t104 = 0 then (if bt106.2.2.2 = 0 then (some (t101 == bt106.1 && (t102 == bt106.2.1))) else (some false)) else (some false))) = some r := H
 have A3 := Aside0.mk A30
 clear A30
 replace H := Option.bind_eq_some_iff.mp H
 obtain ⟨⟨t106, t107, t108, t109⟩, A40, H⟩ := H
 replace H : (if t104 = 0 then (if t109 = 0 then (some (t101 == t106 && (t102 == t107))) else (some false)) else (some false)) = some r := H
 have A4 := Aside0.mk A40
 clear A40
 by_cases c5 : t104 = 0
 ·rw [if_pos c5] at H
  have c5b0 : (t104 == 0) = true := beq_iff_eq.mpr c5
  have c5b1 : (t104 != 0) = false := bne_eq_false_iff_eq.mpr c5
  clear c5
  by_cases c6 : t109 = 0
  ·rw [if_pos c6] at H
   have c6b0 : (t109 == 0) = true := beq_iff_eq.mpr c6
   have c6b1 : (t109 != 0) = false := bne_eq_false_iff_eq.mpr c6
   clear c6
   obtain rfl := Option.some.inj H
   go_enter Tryd.func58, Tryd.ntmps58
   go_upto_region 3 with (first | ((with_reducible refine gate_callee (f := 19) rfl ?_); refine goesL_ (some 11) rfl rfl Tryd.func19 (by kernel_rfl) rfl #[.int .i64 a0] rfl SQ ?_; (with_reducible refine (cal_Date.calls k a0 t101 t102 t103 t104 _ A3.out TQ).mono ?_); rintro e w7 ⟨rfl, hb⟩; refine ⟨_, rfl, ?_⟩; have n0_ := Aside0.mk (below_step (BQ) hb); clear HB; have HB := n0_; clear n0_; (try clear hb); (try clear hb2); (try clear hk); (try clear hi)) | ((with_reducible refine gate_dst (N := 5) rfl ?_); refine box_event ?hg (N := 5) ?hd (cs := #[.int .i64 0, .int .i64 0, .int .i64 0]) (t := 23) ?hr ?_; (case hd => rfl); (case hg => rfl); (case hr => first | (go_simp; done) | (go_simp; rfl)); intro gb105 hg w8 hbox hb; have n0_ := Aside0.mk (below_step (BQ) hb); have n1_ := Aside0.mk (hbox); have n2_ := Aside0.mk ((by rw [hg]; exact (below_size (BQ)) : w.heap.size ≤ gb105)); have n3_ := Aside0.mk ((by rw [hg]; exact (below_size (BQ)) : w.heap.size ≤ gb105)); clear HB; have HB := n0_; have BK105 := n1_; have GW105 := n2_; have GE105 := n3_; clear n0_ n1_ n2_ n3_; clear hb hbox hg; have hcz9_0 : w8.cell? ⟨gb105, 0, none⟩ = some (.int .i64 0) := (blk_cell BK105.out 0).trans rfl; have hcz9_1 : w8.cell? ⟨gb105, 1, none⟩ = some (.int .i64 0) := (blk_cell BK105.out 1).trans rfl; have hcz9_2 : w8.cell? ⟨gb105, 2, none⟩ = some (.int .i64 0) := (blk_cell BK105.out 2).trans rfl; have hfz9_0 := blk_frozen BK105.out 0; have hfz9_1 := blk_frozen BK105.out 1; have hfz9_2 := blk_frozen BK105.out 2) | ((with_reducible refine gate_callee (f := 19) rfl ?_); refine goesL_ (some 16) rfl rfl Tryd.func19 (by kernel_rfl) rfl #[.int .i64 a1] rfl SQ ?_; (with_reducible refine (cal_Date.calls k a1 t106 t107 t108 t109 _ A4.out TQ).mono ?_); rintro e w10 ⟨rfl, hb⟩; refine ⟨_, rfl, ?_⟩; have n0_ := Aside0.mk (blk_below (g := gb105) (o := .cells #[.int .i64 t101, .int .i64 t102, .int .i64 t103] 23 (0, 0)) (by (with_reducible repeat (first | refine blk_drewN ?_ _ | refine blk_drew ?_ | refine blk_alloc ?_ _)); refine blk_put (cs := #[.int .i64 t101, .int .i64 t102, .int .i64 0]) ?_ 2 _ rfl; (with_reducible repeat (first | refine blk_drewN ?_ _ | refine blk_drew ?_ | refine blk_alloc ?_ _)); refine blk_put (cs := #[.int .i64 t101, .int .i64 0, .int .i64 0]) ?_ 1 _ rfl; (with_reducible repeat (first | refine blk_drewN ?_ _ | refine blk_drew ?_ | refine blk_alloc ?_ _)); refine blk_put (cs := #[.int .i64 0, .int .i64 0, .int .i64 0]) ?_ 0 _ rfl; (with_reducible repeat (first | refine blk_drewN ?_ _ | refine blk_drew ?_ | refine blk_alloc ?_ _)); exact BK105.out) hb); have n1_ := Aside0.mk (below_step (BQ) hb); clear BK105; clear HB; have BK105 := n0_; have HB := n1_; clear n0_ n1_; (try clear hb); (try clear hb2); (try clear hk); (try clear hi)) | ((with_reducible refine gate_dst (N := 7) rfl ?_); refine box_event ?hg (N := 7) ?hd (cs := #[.int .i64 0, .int .i64 0, .int .i64 0]) (t := 23) ?hr ?_; (case hd => rfl); (case hg => rfl); (case hr => first | (go_simp; done) | (go_simp; rfl)); intro gb110 hg w11 hbox hb; have n0_ := Aside0.mk (blk_below (g := gb105) (o := .cells #[.int .i64 t101, .int .i64 t102, .int .i64 t103] 23 (0, 0)) ZQ hb); have n1_ := Aside0.mk (below_step (BQ) hb); have n2_ := Aside0.mk (hbox); have n3_ := Aside0.mk ((by rw [hg]; exact (below_size (BQ)) : w.heap.size ≤ gb110)); have n4_ := Aside0.mk ((by rw [hg]; exact (below_size (BQ)) : w.heap.size ≤ gb110)); have n5_ := Aside0.mk ((by rw [hg]; exact Nat.ne_of_lt (blk_lt (g := gb105) (o := .cells #[.int .i64 t101, .int .i64 t102, .int .i64 t103] 23 (0, 0)) ZQ) : gb105 ≠ gb110)); have n6_ := Aside0.mk ((by rw [hg]; exact Nat.ne_of_gt (blk_lt (g := gb105) (o := .cells #[.int .i64 t101, .int .i64 t102, .int .i64 t103] 23 (0, 0)) ZQ) : gb110 ≠ gb105)); clear BK105; clear HB; have BK105 := n0_; have HB := n1_; have BK110 := n2_; have GW110 := n3_; have GE110 := n4_; have NB105_110 := n5_; have NB110_105 := n6_; clear n0_ n1_ n2_ n3_ n4_ n5_ n6_; clear hb hbox hg; have hnb12 := NB110_105.out; have hnc12 := NB105_110.out; have hcz13_0 : w11.cell? ⟨gb110, 0, none⟩ = some (.int .i64 0) := (blk_cell BK110.out 0).trans rfl; have hcz13_1 : w11.cell? ⟨gb110, 1, none⟩ = some (.int .i64 0) := (blk_cell BK110.out 1).trans rfl; have hcz13_2 : w11.cell? ⟨gb110, 2, none⟩ = some (.int .i64 0) := (blk_cell BK110.out 2).trans rfl; have hfz13_0 := blk_frozen BK110.out 0; have hfz13_1 := blk_frozen BK110.out 1; have hfz13_2 := blk_frozen BK110.out 2; have hcz14_0 : w11.cell? ⟨gb105, 0, none⟩ = some (.int .i64 t101) := (blk_cell BK105.out 0).trans rfl; have hcz14_1 : w11.cell? ⟨gb105, 1, none⟩ = some (.int .i64 t102) := (blk_cell BK105.out 1).trans rfl; have hcz14_2 : w11.cell? ⟨gb105, 2, none⟩ = some (.int .i64 t103) := (blk_cell BK105.out 2).trans rfl; have hfz14_0 := blk_frozen BK105.out 0; have hfz14_1 := blk_frozen BK105.out 1; have hfz14_2 := blk_frozen BK105.out 2))
   (try simp only [Act.put, List.setIfInBounds_toArray, List.set_cons_zero, List.set_cons_succ])
   obtain ⟨W, hW⟩ : ∃ W, ((w11.setCell ⟨gb110, 0, none⟩ (.int .i64 t106)).setCell ⟨gb110, 1, none⟩ (.int .i64 t107)).setCell ⟨gb110, 2, none⟩ (.int .i64 t108) = W := ⟨_, rfl⟩
   have BX : W.heap[gb105]? = some (.cells #[.int .i64 t101, .int .i64 t102, .int .i64 t103] 23 (0, 0)) := by rw [← hW]; exact blk_far (blk_far (blk_far BK105.out NB105_110.out _) NB105_110.out _) NB105_110.out _
   have BY : W.heap[gb110]? = some (.cells #[.int .i64 t106, .int .i64 t107, .int .i64 t108] 23 (0, 0)) := by rw [← hW]; exact blk_put (blk_put (blk_put BK110.out 0 _ rfl) 1 _ rfl) 2 _ rfl
   have HBW := Aside0.mk (show Below w.heap.size w W from by rw [← hW]; repeat (first | (with_reducible first | exact HB.out | apply below_alloc | apply pw_below_drewN | apply below_drew1 | refine below_set ?_ GE105.out | refine below_set ?_ GE110.out) | exact HB.out))
   rw [hW]
   clear hW HB
   have HB := HBW
   clear HBW
   skip
   have hkBX_0 : W.cell? ⟨gb105, 0, none⟩ = some (.int .i64 t101) := (blk_cell BX 0).trans rfl
   have hfBX_0 := blk_frozen BX 0
   have hkBX_1 : W.cell? ⟨gb105, 1, none⟩ = some (.int .i64 t102) := (blk_cell BX 1).trans rfl
   have hfBX_1 := blk_frozen BX 1
   have hkBX_2 : W.cell? ⟨gb105, 2, none⟩ = some (.int .i64 t103) := (blk_cell BX 2).trans rfl
   have hfBX_2 := blk_frozen BX 2
   have hkBY_0 : W.cell? ⟨gb110, 0, none⟩ = some (.int .i64 t106) := (blk_cell BY 0).trans rfl
   have hfBY_0 := blk_frozen BY 0
   have hkBY_1 : W.cell? ⟨gb110, 1, none⟩ = some (.int .i64 t107) := (blk_cell BY 1).trans rfl
   have hfBY_1 := blk_frozen BY 1
   have hkBY_2 : W.cell? ⟨gb110, 2, none⟩ = some (.int .i64 t108) := (blk_cell BY 2).trans rfl
   have hfBY_2 := blk_frozen BY 2
   go_wp2
   go_ret
   exact ⟨RQ, BQ⟩
  ·rw [if_neg c6] at H
   have c6b0 : (t109 == 0) = false := beq_eq_false_iff_ne.mpr c6
   have c6b1 : (t109 != 0) = true := bne_iff_ne.mpr c6
   obtain rfl := Option.some.inj H
   go_enter Tryd.func58, Tryd.ntmps58
   go_upto_region 3 with (first | ((with_reducible refine gate_callee (f := 19) rfl ?_); refine goesL_ (some 11) rfl rfl Tryd.func19 (by kernel_rfl) rfl #[.int .i64 a0] rfl SQ ?_; (with_reducible refine (cal_Date.calls k a0 t101 t102 t103 t104 _ A3.out TQ).mono ?_); rintro e w15 ⟨rfl, hb⟩; refine ⟨_, rfl, ?_⟩; have n0_ := Aside0.mk (below_step (BQ) hb); clear HB; have HB := n0_; clear n0_; (try clear hb); (try clear hb2); (try clear hk); (try clear hi)) | ((with_reducible refine gate_dst (N := 5) rfl ?_); refine box_event ?hg (N := 5) ?hd (cs := #[.int .i64 0, .int .i64 0, .int .i64 0]) (t := 23) ?hr ?_; (case hd => rfl); (case hg => rfl); (case hr => first | (go_simp; done) | (go_simp; rfl)); intro gb105 hg w16 hbox hb; have n0_ := Aside0.mk (below_step (BQ) hb); have n1_ := Aside0.mk (hbox); have n2_ := Aside0.mk ((by rw [hg]; exact (below_size (BQ)) : w.heap.size ≤ gb105)); have n3_ := Aside0.mk ((by rw [hg]; exact (below_size (BQ)) : w.heap.size ≤ gb105)); clear HB; have HB := n0_; have BK105 := n1_; have GW105 := n2_; have GE105 := n3_; clear n0_ n1_ n2_ n3_; clear hb hbox hg; have hcz17_0 : w16.cell? ⟨gb105, 0, none⟩ = some (.int .i64 0) := (blk_cell BK105.out 0).trans rfl; have hcz17_1 : w16.cell? ⟨gb105, 1, none⟩ = some (.int .i64 0) := (blk_cell BK105.out 1).trans rfl; have hcz17_2 : w16.cell? ⟨gb105, 2, none⟩ = some (.int .i64 0) := (blk_cell BK105.out 2).trans rfl; have hfz17_0 := blk_frozen BK105.out 0; have hfz17_1 := blk_frozen BK105.out 1; have hfz17_2 := blk_frozen BK105.out 2) | ((with_reducible refine gate_callee (f := 19) rfl ?_); refine goesL_ (some 16) rfl rfl Tryd.func19 (by kernel_rfl) rfl #[.int .i64 a1] rfl SQ ?_; (with_reducible refine (cal_Date.calls k a1 t106 t107 t108 t109 _ A4.out TQ).mono ?_); rintro e w18 ⟨rfl, hb⟩; refine ⟨_, rfl, ?_⟩; have n0_ := Aside0.mk (blk_below (g := gb105) (o := .cells #[.int .i64 t101, .int .i64 t102, .int .i64 t103] 23 (0, 0)) (by (with_reducible repeat (first | refine blk_drewN ?_ _ | refine blk_drew ?_ | refine blk_alloc ?_ _)); refine blk_put (cs := #[.int .i64 t101, .int .i64 t102, .int .i64 0]) ?_ 2 _ rfl; (with_reducible repeat (first | refine blk_drewN ?_ _ | refine blk_drew ?_ | refine blk_alloc ?_ _)); refine blk_put (cs := #[.int .i64 t101, .int .i64 0, .int .i64 0]) ?_ 1 _ rfl; (with_reducible repeat (first | refine blk_drewN ?_ _ | refine blk_drew ?_ | refine blk_alloc ?_ _)); refine blk_put (cs := #[.int .i64 0, .int .i64 0, .int .i64 0]) ?_ 0 _ rfl; (with_reducible repeat (first | refine blk_drewN ?_ _ | refine blk_drew ?_ | refine blk_alloc ?_ _)); exact BK105.out) hb); have n1_ := Aside0.mk (below_step (BQ) hb); clear BK105; clear HB; have BK105 := n0_; have HB := n1_; clear n0_ n1_; (try clear hb); (try clear hb2); (try clear hk); (try clear hi)) | ((with_reducible refine gate_dst (N := 7) rfl ?_); refine box_event ?hg (N := 7) ?hd (cs := #[.int .i64 0, .int .i64 0, .int .i64 0]) (t := 23) ?hr ?_; (case hd => rfl); (case hg => rfl); (case hr => first | (go_simp; done) | (go_simp; rfl)); intro gb110 hg w19 hbox hb; have n0_ := Aside0.mk (blk_below (g := gb105) (o := .cells #[.int .i64 t101, .int .i64 t102, .int .i64 t103] 23 (0, 0)) ZQ hb); have n1_ := Aside0.mk (below_step (BQ) hb); have n2_ := Aside0.mk (hbox); have n3_ := Aside0.mk ((by rw [hg]; exact (below_size (BQ)) : w.heap.size ≤ gb110)); have n4_ := Aside0.mk ((by rw [hg]; exact (below_size (BQ)) : w.heap.size ≤ gb110)); have n5_ := Aside0.mk ((by rw [hg]; exact Nat.ne_of_lt (blk_lt (g := gb105) (o := .cells #[.int .i64 t101, .int .i64 t102, .int .i64 t103] 23 (0, 0)) ZQ) : gb105 ≠ gb110)); have n6_ := Aside0.mk ((by rw [hg]; exact Nat.ne_of_gt (blk_lt (g := gb105) (o := .cells #[.int .i64 t101, .int .i64 t102, .int .i64 t103] 23 (0, 0)) ZQ) : gb110 ≠ gb105)); clear BK105; clear HB; have BK105 := n0_; have HB := n1_; have BK110 := n2_; have GW110 := n3_; have GE110 := n4_; have NB105_110 := n5_; have NB110_105 := n6_; clear n0_ n1_ n2_ n3_ n4_ n5_ n6_; clear hb hbox hg; have hnb20 := NB110_105.out; have hnc20 := NB105_110.out; have hcz21_0 : w19.cell? ⟨gb110, 0, none⟩ = some (.int .i64 0) := (blk_cell BK110.out 0).trans rfl; have hcz21_1 : w19.cell? ⟨gb110, 1, none⟩ = some (.int .i64 0) := (blk_cell BK110.out 1).trans rfl; have hcz21_2 : w19.cell? ⟨gb110, 2, none⟩ = some (.int .i64 0) := (blk_cell BK110.out 2).trans rfl; have hfz21_0 := blk_frozen BK110.out 0; have hfz21_1 := blk_frozen BK110.out 1; have hfz21_2 := blk_frozen BK110.out 2; have hcz22_0 : w19.cell? ⟨gb105, 0, none⟩ = some (.int .i64 t101) := (blk_cell BK105.out 0).trans rfl; have hcz22_1 : w19.cell? ⟨gb105, 1, none⟩ = some (.int .i64 t102) := (blk_cell BK105.out 1).trans rfl; have hcz22_2 : w19.cell? ⟨gb105, 2, none⟩ = some (.int .i64 t103) := (blk_cell BK105.out 2).trans rfl; have hfz22_0 := blk_frozen BK105.out 0; have hfz22_1 := blk_frozen BK105.out 1; have hfz22_2 := blk_frozen BK105.out 2))
   (try simp only [Act.put, List.setIfInBounds_toArray, List.set_cons_zero, List.set_cons_succ])
   obtain ⟨W, hW⟩ : ∃ W, ((w19.setCell ⟨gb110, 0, none⟩ (.int .i64 t106)).setCell ⟨gb110, 1, none⟩ (.int .i64 t107)).setCell ⟨gb110, 2, none⟩ (.int .i64 t108) = W := ⟨_, rfl⟩
   have BX : W.heap[gb105]? = some (.cells #[.int .i64 t101, .int .i64 t102, .int .i64 t103] 23 (0, 0)) := by rw [← hW]; exact blk_far (blk_far (blk_far BK105.out NB105_110.out _) NB105_110.out _) NB105_110.out _
   have BY : W.heap[gb110]? = some (.cells #[.int .i64 t106, .int .i64 t107, .int .i64 t108] 23 (0, 0)) := by rw [← hW]; exact blk_put (blk_put (blk_put BK110.out 0 _ rfl) 1 _ rfl) 2 _ rfl
   have HBW := Aside0.mk (show Below w.heap.size w W from by rw [← hW]; repeat (first | (with_reducible first | exact HB.out | apply below_alloc | apply pw_below_drewN | apply below_drew1 | refine below_set ?_ GE105.out | refine below_set ?_ GE110.out) | exact HB.out))
   rw [hW]
   clear hW HB
   have HB := HBW
   clear HBW
   skip
   have hkBX_0 : W.cell? ⟨gb105, 0, none⟩ = some (.int .i64 t101) := (blk_cell BX 0).trans rfl
   have hfBX_0 := blk_frozen BX 0
   have hkBX_1 : W.cell? ⟨gb105, 1, none⟩ = some (.int .i64 t102) := (blk_cell BX 1).trans rfl
   have hfBX_1 := blk_frozen BX 1
   have hkBX_2 : W.cell? ⟨gb105, 2, none⟩ = some (.int .i64 t103) := (blk_cell BX 2).trans rfl
   have hfBX_2 := blk_frozen BX 2
   have hkBY_0 : W.cell? ⟨gb110, 0, none⟩ = some (.int .i64 t106) := (blk_cell BY 0).trans rfl
   have hfBY_0 := blk_frozen BY 0
   have hkBY_1 : W.cell? ⟨gb110, 1, none⟩ = some (.int .i64 t107) := (blk_cell BY 1).trans rfl
   have hfBY_1 := blk_frozen BY 1
   have hkBY_2 : W.cell? ⟨gb110, 2, none⟩ = some (.int .i64 t108) := (blk_cell BY 2).trans rfl
   have hfBY_2 := blk_frozen BY 2
   go_wp2
   go_ret
   exact ⟨RQ, BQ⟩
 ·rw [if_neg c5] at H
  have c5b0 : (t104 == 0) = false := beq_eq_false_iff_ne.mpr c5
  have c5b1 : (t104 != 0) = true := bne_iff_ne.mpr c5
  obtain rfl := Option.some.inj H
  go_enter Tryd.func58, Tryd.ntmps58
  go_upto_region 3 with (first | ((with_reducible refine gate_callee (f := 19) rfl ?_); refine goesL_ (some 11) rfl rfl Tryd.func19 (by kernel_rfl) rfl #[.int .i64 a0] rfl SQ ?_; (with_reducible refine (cal_Date.calls k a0 t101 t102 t103 t104 _ A3.out TQ).mono ?_); rintro e w23 ⟨rfl, hb⟩; refine ⟨_, rfl, ?_⟩; have n0_ := Aside0.mk (below_step (BQ) hb); clear HB; have HB := n0_; clear n0_; (try clear hb); (try clear hb2); (try clear hk); (try clear hi)) | ((with_reducible refine gate_dst (N := 5) rfl ?_); refine box_event ?hg (N := 5) ?hd (cs := #[.int .i64 0, .int .i64 0, .int .i64 0]) (t := 23) ?hr ?_; (case hd => rfl); (case hg => rfl); (case hr => first | (go_simp; done) | (go_simp; rfl)); intro gb105 hg w24 hbox hb; have n0_ := Aside0.mk (below_step (BQ) hb); have n1_ := Aside0.mk (hbox); have n2_ := Aside0.mk ((by rw [hg]; exact (below_size (BQ)) : w.heap.size ≤ gb105)); have n3_ := Aside0.mk ((by rw [hg]; exact (below_size (BQ)) : w.heap.size ≤ gb105)); clear HB; have HB := n0_; have BK105 := n1_; have GW105 := n2_; have GE105 := n3_; clear n0_ n1_ n2_ n3_; clear hb hbox hg; have hcz25_0 : w24.cell? ⟨gb105, 0, none⟩ = some (.int .i64 0) := (blk_cell BK105.out 0).trans rfl; have hcz25_1 : w24.cell? ⟨gb105, 1, none⟩ = some (.int .i64 0) := (blk_cell BK105.out 1).trans rfl; have hcz25_2 : w24.cell? ⟨gb105, 2, none⟩ = some (.int .i64 0) := (blk_cell BK105.out 2).trans rfl; have hfz25_0 := blk_frozen BK105.out 0; have hfz25_1 := blk_frozen BK105.out 1; have hfz25_2 := blk_frozen BK105.out 2) | ((with_reducible refine gate_callee (f := 19) rfl ?_); refine goesL_ (some 16) rfl rfl Tryd.func19 (by kernel_rfl) rfl #[.int .i64 a1] rfl SQ ?_; (with_reducible refine (cal_Date.calls k a1 t106 t107 t108 t109 _ A4.out TQ).mono ?_); rintro e w26 ⟨rfl, hb⟩; refine ⟨_, rfl, ?_⟩; have n0_ := Aside0.mk (blk_below (g := gb105) (o := .cells #[.int .i64 t101, .int .i64 t102, .int .i64 t103] 23 (0, 0)) (by (with_reducible repeat (first | refine blk_drewN ?_ _ | refine blk_drew ?_ | refine blk_alloc ?_ _)); refine blk_put (cs := #[.int .i64 t101, .int .i64 t102, .int .i64 0]) ?_ 2 _ rfl; (with_reducible repeat (first | refine blk_drewN ?_ _ | refine blk_drew ?_ | refine blk_alloc ?_ _)); refine blk_put (cs := #[.int .i64 t101, .int .i64 0, .int .i64 0]) ?_ 1 _ rfl; (with_reducible repeat (first | refine blk_drewN ?_ _ | refine blk_drew ?_ | refine blk_alloc ?_ _)); refine blk_put (cs := #[.int .i64 0, .int .i64 0, .int .i64 0]) ?_ 0 _ rfl; (with_reducible repeat (first | refine blk_drewN ?_ _ | refine blk_drew ?_ | refine blk_alloc ?_ _)); exact BK105.out) hb); have n1_ := Aside0.mk (below_step (BQ) hb); clear BK105; clear HB; have BK105 := n0_; have HB := n1_; clear n0_ n1_; (try clear hb); (try clear hb2); (try clear hk); (try clear hi)) | ((with_reducible refine gate_dst (N := 7) rfl ?_); refine box_event ?hg (N := 7) ?hd (cs := #[.int .i64 0, .int .i64 0, .int .i64 0]) (t := 23) ?hr ?_; (case hd => rfl); (case hg => rfl); (case hr => first | (go_simp; done) | (go_simp; rfl)); intro gb110 hg w27 hbox hb; have n0_ := Aside0.mk (blk_below (g := gb105) (o := .cells #[.int .i64 t101, .int .i64 t102, .int .i64 t103] 23 (0, 0)) ZQ hb); have n1_ := Aside0.mk (below_step (BQ) hb); have n2_ := Aside0.mk (hbox); have n3_ := Aside0.mk ((by rw [hg]; exact (below_size (BQ)) : w.heap.size ≤ gb110)); have n4_ := Aside0.mk ((by rw [hg]; exact (below_size (BQ)) : w.heap.size ≤ gb110)); have n5_ := Aside0.mk ((by rw [hg]; exact Nat.ne_of_lt (blk_lt (g := gb105) (o := .cells #[.int .i64 t101, .int .i64 t102, .int .i64 t103] 23 (0, 0)) ZQ) : gb105 ≠ gb110)); have n6_ := Aside0.mk ((by rw [hg]; exact Nat.ne_of_gt (blk_lt (g := gb105) (o := .cells #[.int .i64 t101, .int .i64 t102, .int .i64 t103] 23 (0, 0)) ZQ) : gb110 ≠ gb105)); clear BK105; clear HB; have BK105 := n0_; have HB := n1_; have BK110 := n2_; have GW110 := n3_; have GE110 := n4_; have NB105_110 := n5_; have NB110_105 := n6_; clear n0_ n1_ n2_ n3_ n4_ n5_ n6_; clear hb hbox hg; have hnb28 := NB110_105.out; have hnc28 := NB105_110.out; have hcz29_0 : w27.cell? ⟨gb110, 0, none⟩ = some (.int .i64 0) := (blk_cell BK110.out 0).trans rfl; have hcz29_1 : w27.cell? ⟨gb110, 1, none⟩ = some (.int .i64 0) := (blk_cell BK110.out 1).trans rfl; have hcz29_2 : w27.cell? ⟨gb110, 2, none⟩ = some (.int .i64 0) := (blk_cell BK110.out 2).trans rfl; have hfz29_0 := blk_frozen BK110.out 0; have hfz29_1 := blk_frozen BK110.out 1; have hfz29_2 := blk_frozen BK110.out 2; have hcz30_0 : w27.cell? ⟨gb105, 0, none⟩ = some (.int .i64 t101) := (blk_cell BK105.out 0).trans rfl; have hcz30_1 : w27.cell? ⟨gb105, 1, none⟩ = some (.int .i64 t102) := (blk_cell BK105.out 1).trans rfl; have hcz30_2 : w27.cell? ⟨gb105, 2, none⟩ = some (.int .i64 t103) := (blk_cell BK105.out 2).trans rfl; have hfz30_0 := blk_frozen BK105.out 0; have hfz30_1 := blk_frozen BK105.out 1; have hfz30_2 := blk_frozen BK105.out 2))
  (try simp only [Act.put, List.setIfInBounds_toArray, List.set_cons_zero, List.set_cons_succ])
  obtain ⟨W, hW⟩ : ∃ W, ((w27.setCell ⟨gb110, 0, none⟩ (.int .i64 t106)).setCell ⟨gb110, 1, none⟩ (.int .i64 t107)).setCell ⟨gb110, 2, none⟩ (.int .i64 t108) = W := ⟨_, rfl⟩
  have BX : W.heap[gb105]? = some (.cells #[.int .i64 t101, .int .i64 t102, .int .i64 t103] 23 (0, 0)) := by rw [← hW]; exact blk_far (blk_far (blk_far BK105.out NB105_110.out _) NB105_110.out _) NB105_110.out _
  have BY : W.heap[gb110]? = some (.cells #[.int .i64 t106, .int .i64 t107, .int .i64 t108] 23 (0, 0)) := by rw [← hW]; exact blk_put (blk_put (blk_put BK110.out 0 _ rfl) 1 _ rfl) 2 _ rfl
  have HBW := Aside0.mk (show Below w.heap.size w W from by rw [← hW]; repeat (first | (with_reducible first | exact HB.out | apply below_alloc | apply pw_below_drewN | apply below_drew1 | refine below_set ?_ GE105.out | refine below_set ?_ GE110.out) | exact HB.out))
  rw [hW]
  clear hW HB
  have HB := HBW
  clear HBW
  skip
  have hkBX_0 : W.cell? ⟨gb105, 0, none⟩ = some (.int .i64 t101) := (blk_cell BX 0).trans rfl
  have hfBX_0 := blk_frozen BX 0
  have hkBX_1 : W.cell? ⟨gb105, 1, none⟩ = some (.int .i64 t102) := (blk_cell BX 1).trans rfl
  have hfBX_1 := blk_frozen BX 1
  have hkBX_2 : W.cell? ⟨gb105, 2, none⟩ = some (.int .i64 t103) := (blk_cell BX 2).trans rfl
  have hfBX_2 := blk_frozen BX 2
  have hkBY_0 : W.cell? ⟨gb110, 0, none⟩ = some (.int .i64 t106) := (blk_cell BY 0).trans rfl
  have hfBY_0 := blk_frozen BY 0
  have hkBY_1 : W.cell? ⟨gb110, 1, none⟩ = some (.int .i64 t107) := (blk_cell BY 1).trans rfl
  have hfBY_1 := blk_frozen BY 1
  have hkBY_2 : W.cell? ⟨gb110, 2, none⟩ = some (.int .i64 t108) := (blk_cell BY 2).trans rfl
  have hfBY_2 := blk_frozen BY 2
  go_wp2
  go_ret
  exact ⟨RQ, BQ⟩

end Go.Proofs.YtdebllinaffceaaDoor.M
