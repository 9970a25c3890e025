-- Laid by this session's own program (wip/mix/mix.py) around the kit's printer, over bodies that stand in for some functions; not a printed text.
import Derived.Test.YtdebllinaffceaaDoorMx0
import Derived.Test.YtdebllinaffceaaDoorMCalExists
import Derived.Test.YtdebllinaffceaaDoorMCalLength
namespace Go.Proofs.YtdebllinaffceaaDoor.M
open Go.RowKit Go.Proofs.YtdebllinaffceaaDoorW.PrintWords Go.Proofs.YtdebllinaffceaaDoorW.PrintLast Go.Proofs.YtdebllinaffceaaDoorW.PrintMore
attribute [local go_sem] max2_int min2_int max_two min_two max_three min_three max_four min_four   -- for this text's walks alone
set_option linter.unusedVariables false
set_option linter.unusedSimpArgs false

/-! ### cal_Parse: function 26 -/
/-- The bytes from one on (so many are left): the part that is read, and the three parts. -/
def cal_Parse.g (s : ByteArray) : Nat → Int → Int → Int → Int → Option (Int × Int × Int × Int)
  | 0, _, a, b, c => (cal_exists.f a b c).bind fun t => if t = true then some (a, b, c, 0) else some (0, 0, 0, 21)
  | n + 1, p, a, b, c => if (9 : Int) - n = 4 then cal_Parse.g s n (p + 1) a b c else if (9 : Int) - n = 7 then cal_Parse.g s n (p + 1) a b c
    else if bt s (9 - n) < 48 then some (0, 0, 0, 21) else if bt s (9 - n) > 57 then some (0, 0, 0, 21)
    else if p = 0 then cal_Parse.g s n p (wrap64 (wrap64 (10 * a) + (bt s (9 - n) - 48))) b c
    else if p = 1 then cal_Parse.g s n p a (wrap64 (wrap64 (10 * b) + (bt s (9 - n) - 48))) c
    else if p = 2 then cal_Parse.g s n p a b (wrap64 (wrap64 (10 * c) + (bt s (9 - n) - 48))) else none
def cal_Parse.j0 (s : ByteArray) (x : Bool) : Option (Int × Int × Int × Int) := if x = true then some (0, 0, 0, 21) else cal_Parse.g s 10 0 0 0 0
def cal_Parse.f (s : ByteArray) : Option (Int × Int × Int × Int) :=
  if (s.size : Int) = 10 then (if bt s 4 = 45 then cal_Parse.j0 s (bt s 7 != 45) else cal_Parse.j0 s true) else cal_Parse.j0 s true
theorem obj_far {w : World} {g : Nat} {o : Obj} (h : w.heap[g]? = some o) {p : Addr} (hp : g ≠ p.block) (u : Value) : (w.setCell p u).heap[g]? = some o := (Below.heap_setCell w p u g hp).trans h
theorem below_bytes {w : World} (e : TypeId) (s : ByteArray) : Below w.heap.size w (Lib.bytesWorld w e s) :=
  ⟨rfl, rfl, rfl, by rw [Lib.bytesWorld_size]; omega, fun j hj => Lib.bytesWorld_at_old w e s j hj⟩
theorem bytes_at (s : ByteArray) (w : World) (e : TypeId) (i : Int) (h0 : 0 ≤ i) (h1 : i < s.size) : (Lib.bytesCells w e s)[i.toNat]? = some (.int .u8 (bt s i)) := by
  have hj : i.toNat < s.size := by omega
  have := Lib.bytesWorld_cell w e s i.toNat hj
  simp only [World.cell?, Lib.bytesWorld_at_new] at this
  have e2 : ((s.data.toList.getD i.toNat 0).toNat : Int) = bt s i := by
    have hd : i.toNat < s.data.size := hj
    simp [bt, hj, List.getD, hd]; rfl
  rw [e2] at this
  simpa using this
/-- The conversion's new row, under a letter. -/
theorem bytes_event {P : Program} {ops : Array Oper} {Q : Exit → Act → World → Prop} {o : Oper} {rest : List Oper} {a : Act} {W : World} (hgd : o.guard = none) {N : Tmp} (hd : o.dst = some N) {s : ByteArray} {src dst e : TypeId} {x : Operand} {u : TypeDesc} (ho : o.op = .convert src dst x)
    (hx : a.eval x = .string s) (h1 : P.underlying src = some u) (h2 : P.underlying dst = some (.slice e)) (h3 : P.underlying e = some (.int .u8))
    (h : ∀ (g c : Nat) (w1 : World) (cb : Array Value) (fr : Nat × Nat), g = W.heap.size → w1.heap[g]? = some (.cells cb e fr) → (∀ i : Int, 0 ≤ i → i < s.size → cb[i.toNat]? = some (.int .u8 (bt s i))) → Below W.heap.size W w1 →
      wpList P ops Q rest (a.put o.dst (.slice (some ⟨g, 0, none⟩) s.size c)) w1) : wpList P ops Q (o :: rest) a W := by
  have hrun : (execOp a.eval o).run P W = .ok (.value (.slice (some ⟨W.heap.size, 0, none⟩) s.size (grownCap W s.size 0 e))) (Lib.bytesWorld W e s) := by
    have hc := Lib.run_convert_string_bytes W src dst e s h1 h2 h3
    simp [execOp, ho, hx, hc, Result.andThen]
  exact Kd.event_run hgd hrun (h _ _ _ _ _ rfl (Lib.bytesWorld_at_new W e s) (fun i h0 h1 => bytes_at s W e i h0 h1) (below_bytes e s))
set_option maxHeartbeats 8000000 in
set_option maxRecDepth 100000 in
theorem cal_Parse.calls (a0 : ByteArray) (r1 : Int) (r2 : Int) (r3 : Int) (r4 : Int) (w : World) (h : cal_Parse.f a0 = some (r1, r2, r3, r4)) (G0 : TabW w) :
    Calls Tryd.prog 26 #[.string a0] w fun e w' => e = .returned (.tuple #[.agg #[.int .i64 r1, .int .i64 r2, .int .i64 r3], .int .i64 r4]) ∧ Below w.heap.size w w' := by
  have GT := Aside0.mk G0
  clear G0
  have hu23 := Tryd.underlying23
  have HB := Aside0.mk (Below.refl w.heap.size w)
  have HC2 := Aside0.mk h
  clear h
  go_enter Tryd.func26, Tryd.ntmps26
  go_upto_region 1 with (first | ((with_reducible refine gate_dst (N := 2) rfl ?_); refine box_event ?hg (N := 2) ?hd (cs := #[.int .i64 0, .int .i64 0, .int .i64 0]) (t := 23) ?hr ?_; (case hd => rfl); (case hg => rfl); (case hr => first | (go_simp; done) | (go_simp; rfl)); intro gb101 hg w3 hbox hb; have n0_ := Aside0.mk (below_step (by repeat (first | (with_reducible first | exact HB.out | apply below_alloc | apply pw_below_drewN | apply below_drew1) | exact HB.out)) hb); have n1_ := Aside0.mk (hbox); have n2_ := Aside0.mk ((by rw [hg]; exact (below_size (by repeat (first | (with_reducible first | exact HB.out | apply below_alloc | apply pw_below_drewN | apply below_drew1) | exact HB.out))) : w.heap.size ≤ gb101)); clear HB; have HB := n0_; have BK101 := n1_; have GE101 := n2_; clear n0_ n1_ n2_; clear hb hbox hg))
  (try simp only [Act.put, List.setIfInBounds_toArray, List.set_cons_zero, List.set_cons_succ])
  go_cut [21] (fun v21 wc => ∃ (x21_1 : Bool), v21 = .bool x21_1 ∧ Aside0 (cal_Parse.j0 a0 x21_1 = some (r1, r2, r3, r4)) ∧ Aside0 (x21_1 = false → a0.size = 10) ∧ Aside0 (wc.heap[gb101]? = some (.cells #[.int .i64 0, .int .i64 0, .int .i64 0] 23 (0, 0))) ∧ Aside0 (Below w.heap.size w wc))
  case first =>
    have H := HC2.out
    clear HC2
    unfold cal_Parse.f at H
    by_cases c4 : (a0.size : Int) = 10
    · rw [if_pos c4] at H
      have c4b0 : ((a0.size : Int) == 10) = true := beq_iff_eq.mpr c4
      have c4b1 : ((a0.size : Int) != 10) = false := bne_eq_false_iff_eq.mpr c4
      have HZ : Aside0 (a0.size = 10) := ⟨by omega⟩
      have q6 : (4 < a0.size) = True := eq_true (by omega)
      have qi6 : (4 < (a0.size : Int)) = True := eq_true (by omega)
      have q9 : (7 < a0.size) = True := eq_true (by omega)
      have qi9 : (7 < (a0.size : Int)) = True := eq_true (by omega)
      have hx6 : ∀ h : 4 < a0.size, ((a0[4]'h).toNat : Int) = bt a0 4 := bt_at a0 4
      have hx9 : ∀ h : 7 < a0.size, ((a0[7]'h).toNat : Int) = bt a0 7 := bt_at a0 7
      clear c4
      (first | rw [c4b0] | (simp only [i64_w, i32_w]; rw [c4b0]) | skip)
      by_cases c7 : (bt a0 4) = 45
      · rw [if_pos c7] at H
        have c7b0 : ((bt a0 4) == 45) = true := beq_iff_eq.mpr c7
        have c7b1 : ((bt a0 4) != 45) = false := bne_eq_false_iff_eq.mpr c7
        clear c7
        have H' := Aside0.mk H
        clear H
        go_wp2
        go_meet
        case rel => exact ⟨(((bt a0 7) != 45)), (by first | rfl | (simp; done) | (simp [*]; done)), H', ⟨fun _ => HZ.out⟩, ⟨by (with_reducible repeat (first | refine blk_drewN ?_ _ | refine blk_drew ?_ | refine blk_alloc ?_ _)); exact BK101.out⟩, ⟨by repeat (first | (with_reducible first | exact HB.out | apply below_alloc | apply pw_below_drewN | apply below_drew1 | refine below_set ?_ GE101.out) | exact HB.out)⟩⟩
      · rw [if_neg c7] at H
        have c7b0 : ((bt a0 4) == 45) = false := beq_eq_false_iff_ne.mpr c7
        have c7b1 : ((bt a0 4) != 45) = true := bne_iff_ne.mpr c7
        have H' := Aside0.mk H
        clear H
        go_wp2
        go_meet
        case rel => exact ⟨(true), (by first | rfl | (simp; done) | (simp [*]; done)), H', ⟨fun _ => HZ.out⟩, ⟨by (with_reducible repeat (first | refine blk_drewN ?_ _ | refine blk_drew ?_ | refine blk_alloc ?_ _)); exact BK101.out⟩, ⟨by repeat (first | (with_reducible first | exact HB.out | apply below_alloc | apply pw_below_drewN | apply below_drew1 | refine below_set ?_ GE101.out) | exact HB.out)⟩⟩
    · rw [if_neg c4] at H
      have c4b0 : ((a0.size : Int) == 10) = false := beq_eq_false_iff_ne.mpr c4
      have c4b1 : ((a0.size : Int) != 10) = true := bne_iff_ne.mpr c4
      (first | rw [c4b0] | (simp only [i64_w, i32_w]; rw [c4b0]) | skip)
      have H' := Aside0.mk H
      clear H
      go_wp2
      go_meet
      case rel => exact ⟨(true), (by first | rfl | (simp; done) | (simp [*]; done)), H', ⟨fun hh => absurd hh (by decide)⟩, ⟨by (with_reducible repeat (first | refine blk_drewN ?_ _ | refine blk_drew ?_ | refine blk_alloc ?_ _)); exact BK101.out⟩, ⟨by repeat (first | (with_reducible first | exact HB.out | apply below_alloc | apply pw_below_drewN | apply below_drew1 | refine below_set ?_ GE101.out) | exact HB.out)⟩⟩
  case rest =>
    clear HC2
    obtain ⟨x21_1, rfl, HA, HZ, BK101, HB⟩ := hcut
    have H := HA.out
    clear HA
    unfold cal_Parse.j0 at H
    cases x21_1 with
    | true =>
      rw [if_pos rfl] at H
      simp only [Option.some.injEq, Prod.mk.injEq] at H
      obtain ⟨rfl, rfl, rfl, rfl⟩ := H
      have hcz11_0 : wc.cell? ⟨gb101, 0, none⟩ = some (.int .i64 0) := (blk_cell BK101.out 0).trans rfl
      have hcz11_1 : wc.cell? ⟨gb101, 1, none⟩ = some (.int .i64 0) := (blk_cell BK101.out 1).trans rfl
      have hcz11_2 : wc.cell? ⟨gb101, 2, none⟩ = some (.int .i64 0) := (blk_cell BK101.out 2).trans rfl
      have hfz11_0 := blk_frozen BK101.out 0
      have hfz11_1 := blk_frozen BK101.out 1
      have hfz11_2 := blk_frozen BK101.out 2
      go_wp2
      refine bodyPost_ret (results_ct rfl _ _ gb101 23 #[.int .i64 0, .int .i64 0, .int .i64 0] (0, 0) _ rfl (by (with_reducible repeat (first | refine blk_drewN ?_ _ | refine blk_drew ?_ | refine blk_alloc ?_ _)); refine blk_put (cs := #[.int .i64 0, .int .i64 0, .int .i64 0]) ?_ 2 _ rfl; (with_reducible repeat (first | refine blk_drewN ?_ _ | refine blk_drew ?_ | refine blk_alloc ?_ _)); refine blk_put (cs := #[.int .i64 0, .int .i64 0, .int .i64 0]) ?_ 1 _ rfl; (with_reducible repeat (first | refine blk_drewN ?_ _ | refine blk_drew ?_ | refine blk_alloc ?_ _)); refine blk_put (cs := #[.int .i64 0, .int .i64 0, .int .i64 0]) ?_ 0 _ rfl; (with_reducible repeat (first | refine blk_drewN ?_ _ | refine blk_drew ?_ | refine blk_alloc ?_ _)); exact BK101.out) Tryd.underlying23 rfl (by kernel_rfl)) rfl ?_
      exact ⟨by first | rfl | (simp [errW_none, errW_some] <;> rfl) | (simp [*, errW_none, errW_some] <;> rfl), by repeat (first | (with_reducible first | exact HB.out | apply below_alloc | apply pw_below_drewN | apply below_drew1 | refine below_set ?_ GE101.out) | exact HB.out)⟩
    | false =>
      rw [if_neg (by decide)] at H
      have HS : Aside0 (a0.size = 10) := ⟨HZ.out rfl⟩
      clear HZ
      have H' := Aside0.mk H
      clear H
      go_wp2_with (first | ((with_reducible refine gate_dst (N := 4) rfl ?_); refine box_event ?hg (N := 4) ?hd (cs := #[.int .i64 0, .int .i64 0, .int .i64 0]) (t := 67) ?hr ?_; (case hd => rfl); (case hg => rfl); (case hr => first | (go_simp; done) | (go_simp; rfl)); intro gb4 hg w4 hbox hb; have n0_ := Aside0.mk (below_step (by repeat (first | (with_reducible first | exact HB.out | apply below_alloc | apply pw_below_drewN | apply below_drew1) | exact HB.out)) hb); have n1_ := Aside0.mk (hbox); have n2_ := Aside0.mk ((by rw [hg]; exact (below_size (by repeat (first | (with_reducible first | exact HB.out | apply below_alloc | apply pw_below_drewN | apply below_drew1) | exact HB.out))) : w.heap.size ≤ gb4)); have n3_ := Aside0.mk (blk_below BK101.out hb); have n4_ : Aside0 (gb101 ≠ gb4) := ⟨by have := blk_lt BK101.out; omega⟩; clear HB BK101; have HB := n0_; have BK4 := n1_; have GE4 := n2_; have BK101 := n3_; have NB14 := n4_; clear n0_ n1_ n2_ n3_ n4_; clear hb hbox hg) | ((with_reducible refine gate_dst (N := 24) rfl ?_); refine bytes_event (s := a0) (x := .tmp 23) ?hg (N := 24) ?hd ?ho ?hx Tryd.underlying9 Tryd.underlying64 Tryd.underlying5 ?_; (case hg => rfl); (case hd => rfl); (case ho => rfl); (case hx => rfl); intro gs cq w5 cb fr hg hbox hcb hb; have n0_ := Aside0.mk (below_step (by repeat (first | (with_reducible first | exact HB.out | apply below_alloc | apply pw_below_drewN | apply below_drew1) | exact HB.out)) hb); have n1_ := Aside0.mk (hbox); have n3_ := Aside0.mk (blk_below BK101.out hb); have n4_ := Aside0.mk (blk_below BK4.out hb); have n5_ : Aside0 (gs ≠ gb4) := ⟨by have := blk_lt BK4.out; omega⟩; have n6_ := Aside0.mk hcb; clear HB BK101 BK4; have HB := n0_; have BS := n1_; have BK101 := n3_; have BK4 := n4_; have NBS := n5_; have HCB := n6_; clear n0_ n1_ n3_ n4_ n5_ n6_; clear hb hbox hg hcb))
      go_loopg [5, 26] 10 (fun kq v5 v26 w' => ∃ (p i a b c : Int), v5 = .int .i64 p ∧ v26 = .int .i64 i ∧ Aside0 (i = 10 - kq ∧ kq ≤ 10 ∧ 0 ≤ p ∧ p ≤ i) ∧ Aside0 (cal_Parse.g a0 kq p a b c = some (r1, r2, r3, r4)) ∧ Aside0 (w'.heap[gs]? = some (.cells cb 5 fr)) ∧ Aside0 (w'.heap[gb101]? = some (.cells #[.int .i64 0, .int .i64 0, .int .i64 0] 23 (0, 0))) ∧ Aside0 (w'.heap[gb4]? = some (.cells #[.int .i64 a, .int .i64 b, .int .i64 c] 67 (0, 0))) ∧ Aside0 (Below w.heap.size w w'))
      case atStart => exact ⟨0, 0, 0, 0, 0, (by first | rfl | (simp; done)), (by first | rfl | (simp; done)), ⟨by omega⟩, H', BS, BK101, BK4, HB⟩
      case round =>
        clear H' BS BK101 BK4 HB
        obtain ⟨p, i, a, b, c, rfl, rfl, HI, HG, BS, BK101, BK4, HB⟩ := hrel
        have hc4_0 : wr.cell? ⟨gb4, 0, none⟩ = some (.int .i64 a) := (blk_cell BK4.out 0).trans rfl
        have hc4_1 : wr.cell? ⟨gb4, 1, none⟩ = some (.int .i64 b) := (blk_cell BK4.out 1).trans rfl
        have hc4_2 : wr.cell? ⟨gb4, 2, none⟩ = some (.int .i64 c) := (blk_cell BK4.out 2).trans rfl
        have hf4_0 := blk_frozen BK4.out 0
        have hf4_1 := blk_frozen BK4.out 1
        have hf4_2 := blk_frozen BK4.out 2
        cases gk with
        | zero =>
          have H := HG.out
          clear HG
          simp only [cal_Parse.g] at H
          have hi0 : decide (i < (a0.size : Int)) = false := decide_eq_false (by have := HI.out; have := HS.out; omega)
          replace H := Option.bind_eq_some_iff.mp H
          obtain ⟨t, A10, H⟩ := H
          have A1 := Aside0.mk A10
          clear A10
          cases t with
          | true =>
            rw [if_pos rfl] at H
            simp only [Option.some.injEq, Prod.mk.injEq] at H
            obtain ⟨rfl, rfl, rfl, rfl⟩ := H
            go_wp2_with (first | ((with_reducible refine gate_dst (N := 8) rfl ?_); refine box_event ?hg (N := 8) ?hd (cs := #[.int .i64 0, .int .i64 0, .int .i64 0]) (t := 23) ?hr ?_; (case hd => rfl); (case hg => rfl); (case hr => first | (go_simp; done) | (go_simp; rfl)); intro gb8 hg w8 hbox hb; have n0_ := Aside0.mk (below_step (by repeat (first | (with_reducible first | exact HB.out | apply below_alloc | apply pw_below_drewN | apply below_drew1 | refine below_set ?_ GE101.out | refine below_set ?_ GE4.out) | exact HB.out)) hb); have n1_ := Aside0.mk (hbox); have n2_ := Aside0.mk ((by rw [hg]; exact (below_size (by repeat (first | (with_reducible first | exact HB.out | apply below_alloc | apply pw_below_drewN | apply below_drew1 | refine below_set ?_ GE101.out | refine below_set ?_ GE4.out) | exact HB.out)))) : w.heap.size ≤ gb8); have n3_ := Aside0.mk (blk_below BK101.out hb); have n4_ : Aside0 (gb101 ≠ gb8) := ⟨by have := blk_lt BK101.out; omega⟩; clear HB BK101; have HB := n0_; have BK8 := n1_; have GE8 := n2_; have BK101 := n3_; have NB18 := n4_; clear n0_ n1_ n2_ n3_ n4_; clear hb hbox hg; have hcz8_0 : w8.cell? ⟨gb8, 0, none⟩ = some (.int .i64 0) := (blk_cell BK8.out 0).trans rfl; have hcz8_1 : w8.cell? ⟨gb8, 1, none⟩ = some (.int .i64 0) := (blk_cell BK8.out 1).trans rfl; have hcz8_2 : w8.cell? ⟨gb8, 2, none⟩ = some (.int .i64 0) := (blk_cell BK8.out 2).trans rfl; have hfz8_0 := blk_frozen BK8.out 0; have hfz8_1 := blk_frozen BK8.out 1; have hfz8_2 := blk_frozen BK8.out 2) | ((with_reducible refine gate_callee (f := 44) rfl ?_); refine goesL_ (some 63) rfl rfl Tryd.func44 (by kernel_rfl) rfl #[.agg #[.int .i64 a, .int .i64 b, .int .i64 c]] rfl (by (try simp only [List.map_toArray, List.map_cons, List.map_nil]); first | done | rfl | (simp only [List.length_drop, List.length_take]; rfl)) ?_; (with_reducible refine (cal_exists.calls a b c true _ A1.out (TabW.below GT.out (by repeat (first | (with_reducible first | exact HB.out | apply below_alloc | apply pw_below_drewN | apply below_drew1 | refine below_set ?_ GE101.out | refine below_set ?_ GE4.out | refine below_set ?_ GE8.out) | exact HB.out)))).mono ?_); rintro e w9 ⟨rfl, hb⟩; refine ⟨_, rfl, ?_⟩; have n0_ := Aside0.mk (blk_below (g := gb101) (o := .cells #[.int .i64 0, .int .i64 0, .int .i64 0] 23 (0, 0)) (by (with_reducible repeat (first | refine blk_drewN ?_ _ | refine blk_drew ?_ | refine blk_alloc ?_ _)); refine blk_far ?_ NB18.out _; (with_reducible repeat (first | refine blk_drewN ?_ _ | refine blk_drew ?_ | refine blk_alloc ?_ _)); refine blk_far ?_ NB18.out _; (with_reducible repeat (first | refine blk_drewN ?_ _ | refine blk_drew ?_ | refine blk_alloc ?_ _)); refine blk_far ?_ NB18.out _; (with_reducible repeat (first | refine blk_drewN ?_ _ | refine blk_drew ?_ | refine blk_alloc ?_ _)); exact BK101.out) hb); have n1_ := Aside0.mk (blk_below (g := gb8) (o := .cells #[.int .i64 a, .int .i64 b, .int .i64 c] 23 (0, 0)) (by (with_reducible repeat (first | refine blk_drewN ?_ _ | refine blk_drew ?_ | refine blk_alloc ?_ _)); refine blk_put (cs := #[.int .i64 a, .int .i64 b, .int .i64 0]) ?_ 2 _ rfl; (with_reducible repeat (first | refine blk_drewN ?_ _ | refine blk_drew ?_ | refine blk_alloc ?_ _)); refine blk_put (cs := #[.int .i64 a, .int .i64 0, .int .i64 0]) ?_ 1 _ rfl; (with_reducible repeat (first | refine blk_drewN ?_ _ | refine blk_drew ?_ | refine blk_alloc ?_ _)); refine blk_put (cs := #[.int .i64 0, .int .i64 0, .int .i64 0]) ?_ 0 _ rfl; (with_reducible repeat (first | refine blk_drewN ?_ _ | refine blk_drew ?_ | refine blk_alloc ?_ _)); exact BK8.out) hb); have n2_ := Aside0.mk (below_step (by repeat (first | (with_reducible first | exact HB.out | apply below_alloc | apply pw_below_drewN | apply below_drew1 | refine below_set ?_ GE101.out | refine below_set ?_ GE4.out | refine below_set ?_ GE8.out) | exact HB.out)) hb); clear BK101 BK8 HB hb; have BK101 := n0_; have BK8 := n1_; have HB := n2_; clear n0_ n1_ n2_; have hcz9_0 : w9.cell? ⟨gb8, 0, none⟩ = some (.int .i64 a) := (blk_cell BK8.out 0).trans rfl; have hcz9_1 : w9.cell? ⟨gb8, 1, none⟩ = some (.int .i64 b) := (blk_cell BK8.out 1).trans rfl; have hcz9_2 : w9.cell? ⟨gb8, 2, none⟩ = some (.int .i64 c) := (blk_cell BK8.out 2).trans rfl; have hcw9_0 : w9.cell? ⟨gb101, 0, none⟩ = some (.int .i64 0) := (blk_cell BK101.out 0).trans rfl; have hcw9_1 : w9.cell? ⟨gb101, 1, none⟩ = some (.int .i64 0) := (blk_cell BK101.out 1).trans rfl; have hcw9_2 : w9.cell? ⟨gb101, 2, none⟩ = some (.int .i64 0) := (blk_cell BK101.out 2).trans rfl; have hfw9_0 := blk_frozen BK101.out 0; have hfw9_1 := blk_frozen BK101.out 1; have hfw9_2 := blk_frozen BK101.out 2; have hfz9_0 := blk_frozen BK8.out 0; have hfz9_1 := blk_frozen BK8.out 1; have hfz9_2 := blk_frozen BK8.out 2))
            refine bodyPost_ret (results_ct rfl _ _ gb101 23 #[.int .i64 a, .int .i64 b, .int .i64 c] (0, 0) _ rfl (by (with_reducible repeat (first | refine blk_drewN ?_ _ | refine blk_drew ?_ | refine blk_alloc ?_ _)); refine blk_put (cs := #[.int .i64 a, .int .i64 b, .int .i64 0]) ?_ 2 _ rfl; (with_reducible repeat (first | refine blk_drewN ?_ _ | refine blk_drew ?_ | refine blk_alloc ?_ _)); refine blk_put (cs := #[.int .i64 a, .int .i64 0, .int .i64 0]) ?_ 1 _ rfl; (with_reducible repeat (first | refine blk_drewN ?_ _ | refine blk_drew ?_ | refine blk_alloc ?_ _)); refine blk_put (cs := #[.int .i64 0, .int .i64 0, .int .i64 0]) ?_ 0 _ rfl; (with_reducible repeat (first | refine blk_drewN ?_ _ | refine blk_drew ?_ | refine blk_alloc ?_ _)); exact BK101.out) Tryd.underlying23 rfl (by kernel_rfl)) rfl ?_
            exact ⟨by first | rfl | (simp [errW_none, errW_some] <;> rfl) | (simp [*, errW_none, errW_some] <;> rfl), by repeat (first | (with_reducible first | exact HB.out | apply below_alloc | apply pw_below_drewN | apply below_drew1 | refine below_set ?_ GE101.out) | exact HB.out)⟩
          | false =>
            rw [if_neg (by decide)] at H
            simp only [Option.some.injEq, Prod.mk.injEq] at H
            obtain ⟨rfl, rfl, rfl, rfl⟩ := H
            go_wp2_with (first | ((with_reducible refine gate_dst (N := 8) rfl ?_); refine box_event ?hg (N := 8) ?hd (cs := #[.int .i64 0, .int .i64 0, .int .i64 0]) (t := 23) ?hr ?_; (case hd => rfl); (case hg => rfl); (case hr => first | (go_simp; done) | (go_simp; rfl)); intro gb8 hg w8 hbox hb; have n0_ := Aside0.mk (below_step (by repeat (first | (with_reducible first | exact HB.out | apply below_alloc | apply pw_below_drewN | apply below_drew1 | refine below_set ?_ GE101.out | refine below_set ?_ GE4.out) | exact HB.out)) hb); have n1_ := Aside0.mk (hbox); have n2_ := Aside0.mk ((by rw [hg]; exact (below_size (by repeat (first | (with_reducible first | exact HB.out | apply below_alloc | apply pw_below_drewN | apply below_drew1 | refine below_set ?_ GE101.out | refine below_set ?_ GE4.out) | exact HB.out)))) : w.heap.size ≤ gb8); have n3_ := Aside0.mk (blk_below BK101.out hb); have n4_ : Aside0 (gb101 ≠ gb8) := ⟨by have := blk_lt BK101.out; omega⟩; clear HB BK101; have HB := n0_; have BK8 := n1_; have GE8 := n2_; have BK101 := n3_; have NB18 := n4_; clear n0_ n1_ n2_ n3_ n4_; clear hb hbox hg; have hcz8_0 : w8.cell? ⟨gb8, 0, none⟩ = some (.int .i64 0) := (blk_cell BK8.out 0).trans rfl; have hcz8_1 : w8.cell? ⟨gb8, 1, none⟩ = some (.int .i64 0) := (blk_cell BK8.out 1).trans rfl; have hcz8_2 : w8.cell? ⟨gb8, 2, none⟩ = some (.int .i64 0) := (blk_cell BK8.out 2).trans rfl; have hfz8_0 := blk_frozen BK8.out 0; have hfz8_1 := blk_frozen BK8.out 1; have hfz8_2 := blk_frozen BK8.out 2) | ((with_reducible refine gate_callee (f := 44) rfl ?_); refine goesL_ (some 63) rfl rfl Tryd.func44 (by kernel_rfl) rfl #[.agg #[.int .i64 a, .int .i64 b, .int .i64 c]] rfl (by (try simp only [List.map_toArray, List.map_cons, List.map_nil]); first | done | rfl | (simp only [List.length_drop, List.length_take]; rfl)) ?_; (with_reducible refine (cal_exists.calls a b c false _ A1.out (TabW.below GT.out (by repeat (first | (with_reducible first | exact HB.out | apply below_alloc | apply pw_below_drewN | apply below_drew1 | refine below_set ?_ GE101.out | refine below_set ?_ GE4.out | refine below_set ?_ GE8.out) | exact HB.out)))).mono ?_); rintro e w9 ⟨rfl, hb⟩; refine ⟨_, rfl, ?_⟩; have n0_ := Aside0.mk (blk_below (g := gb101) (o := .cells #[.int .i64 0, .int .i64 0, .int .i64 0] 23 (0, 0)) (by (with_reducible repeat (first | refine blk_drewN ?_ _ | refine blk_drew ?_ | refine blk_alloc ?_ _)); refine blk_far ?_ NB18.out _; (with_reducible repeat (first | refine blk_drewN ?_ _ | refine blk_drew ?_ | refine blk_alloc ?_ _)); refine blk_far ?_ NB18.out _; (with_reducible repeat (first | refine blk_drewN ?_ _ | refine blk_drew ?_ | refine blk_alloc ?_ _)); refine blk_far ?_ NB18.out _; (with_reducible repeat (first | refine blk_drewN ?_ _ | refine blk_drew ?_ | refine blk_alloc ?_ _)); exact BK101.out) hb); have n1_ := Aside0.mk (blk_below (g := gb8) (o := .cells #[.int .i64 a, .int .i64 b, .int .i64 c] 23 (0, 0)) (by (with_reducible repeat (first | refine blk_drewN ?_ _ | refine blk_drew ?_ | refine blk_alloc ?_ _)); refine blk_put (cs := #[.int .i64 a, .int .i64 b, .int .i64 0]) ?_ 2 _ rfl; (with_reducible repeat (first | refine blk_drewN ?_ _ | refine blk_drew ?_ | refine blk_alloc ?_ _)); refine blk_put (cs := #[.int .i64 a, .int .i64 0, .int .i64 0]) ?_ 1 _ rfl; (with_reducible repeat (first | refine blk_drewN ?_ _ | refine blk_drew ?_ | refine blk_alloc ?_ _)); refine blk_put (cs := #[.int .i64 0, .int .i64 0, .int .i64 0]) ?_ 0 _ rfl; (with_reducible repeat (first | refine blk_drewN ?_ _ | refine blk_drew ?_ | refine blk_alloc ?_ _)); exact BK8.out) hb); have n2_ := Aside0.mk (below_step (by repeat (first | (with_reducible first | exact HB.out | apply below_alloc | apply pw_below_drewN | apply below_drew1 | refine below_set ?_ GE101.out | refine below_set ?_ GE4.out | refine below_set ?_ GE8.out) | exact HB.out)) hb); clear BK101 BK8 HB hb; have BK101 := n0_; have BK8 := n1_; have HB := n2_; clear n0_ n1_ n2_; have hcz9_0 : w9.cell? ⟨gb8, 0, none⟩ = some (.int .i64 a) := (blk_cell BK8.out 0).trans rfl; have hcz9_1 : w9.cell? ⟨gb8, 1, none⟩ = some (.int .i64 b) := (blk_cell BK8.out 1).trans rfl; have hcz9_2 : w9.cell? ⟨gb8, 2, none⟩ = some (.int .i64 c) := (blk_cell BK8.out 2).trans rfl; have hcw9_0 : w9.cell? ⟨gb101, 0, none⟩ = some (.int .i64 0) := (blk_cell BK101.out 0).trans rfl; have hcw9_1 : w9.cell? ⟨gb101, 1, none⟩ = some (.int .i64 0) := (blk_cell BK101.out 1).trans rfl; have hcw9_2 : w9.cell? ⟨gb101, 2, none⟩ = some (.int .i64 0) := (blk_cell BK101.out 2).trans rfl; have hfw9_0 := blk_frozen BK101.out 0; have hfw9_1 := blk_frozen BK101.out 1; have hfw9_2 := blk_frozen BK101.out 2; have hfz9_0 := blk_frozen BK8.out 0; have hfz9_1 := blk_frozen BK8.out 1; have hfz9_2 := blk_frozen BK8.out 2))
            refine bodyPost_ret (results_ct rfl _ _ gb101 23 #[.int .i64 0, .int .i64 0, .int .i64 0] (0, 0) _ rfl (by (with_reducible repeat (first | refine blk_drewN ?_ _ | refine blk_drew ?_ | refine blk_alloc ?_ _)); refine blk_put (cs := #[.int .i64 0, .int .i64 0, .int .i64 0]) ?_ 2 _ rfl; (with_reducible repeat (first | refine blk_drewN ?_ _ | refine blk_drew ?_ | refine blk_alloc ?_ _)); refine blk_put (cs := #[.int .i64 0, .int .i64 0, .int .i64 0]) ?_ 1 _ rfl; (with_reducible repeat (first | refine blk_drewN ?_ _ | refine blk_drew ?_ | refine blk_alloc ?_ _)); refine blk_put (cs := #[.int .i64 0, .int .i64 0, .int .i64 0]) ?_ 0 _ rfl; (with_reducible repeat (first | refine blk_drewN ?_ _ | refine blk_drew ?_ | refine blk_alloc ?_ _)); exact BK101.out) Tryd.underlying23 rfl (by kernel_rfl)) rfl ?_
            exact ⟨by first | rfl | (simp [errW_none, errW_some] <;> rfl) | (simp [*, errW_none, errW_some] <;> rfl), by repeat (first | (with_reducible first | exact HB.out | apply below_alloc | apply pw_below_drewN | apply below_drew1 | refine below_set ?_ GE101.out) | exact HB.out)⟩
        | succ n =>
          have H := HG.out
          clear HG
          simp only [cal_Parse.g] at H
          have e9 : (9 : Int) - n = i := by have := HI.out; omega
          rw [e9] at H
          have E9 := Aside0.mk e9
          clear e9
          have b0 : 0 ≤ i := by have := HI.out; have := E9.out; omega
          have b1 : i < 10 := by have := HI.out; have := E9.out; omega
          have b2 : 0 ≤ p := HI.out.2.2.1
          have b3 : p ≤ 10 := by have := HI.out; omega
          have hi1 : decide (i < (a0.size : Int)) = true := decide_eq_true (by have := HS.out; omega)
          have hi2 : (i < (a0.size : Int)) = True := eq_true (by have := HS.out; omega)
          have hx : wr.cell? ⟨gs, i.toNat, none⟩ = some (.int .u8 (bt a0 i)) := (cell_of_row wr gs i.toNat cb 5 fr BS.out).trans (HCB.out i b0 (by have := HS.out; omega))
          have br := bt_range a0 i
          obtain ⟨br0, br1⟩ := br
          by_cases e4 : i = 4
          · rw [if_pos e4] at H
            have e4b0 : (i == 4) = true := beq_iff_eq.mpr e4
            clear e4
            have H' := Aside0.mk H
            clear H
            go_wp2
            go_roundg n
            case measure => have := HI.out; omega
            case rel => exact ⟨p + 1, i + 1, a, b, c, (by first | rfl | (simp; done)), (by first | rfl | (simp; done)), ⟨by have := HI.out; have := E9.out; omega⟩, H', BS, BK101, BK4, HB⟩
          · rw [if_neg e4] at H
            have e4b0 : (i == 4) = false := beq_eq_false_iff_ne.mpr e4
            clear e4
            by_cases e7 : i = 7
            · rw [if_pos e7] at H
              have e7b0 : (i == 7) = true := beq_iff_eq.mpr e7
              clear e7
              have H' := Aside0.mk H
              clear H
              go_wp2
              go_roundg n
              case measure => have := HI.out; omega
              case rel => exact ⟨p + 1, i + 1, a, b, c, (by first | rfl | (simp; done)), (by first | rfl | (simp; done)), ⟨by have := HI.out; have := E9.out; omega⟩, H', BS, BK101, BK4, HB⟩
            · rw [if_neg e7] at H
              have e7b0 : (i == 7) = false := beq_eq_false_iff_ne.mpr e7
              clear e7
              by_cases l0 : bt a0 i < 48
              · rw [if_pos l0] at H
                have l0b0 : decide (bt a0 i < 48) = true := decide_eq_true l0
                clear l0
                simp only [Option.some.injEq, Prod.mk.injEq] at H
                obtain ⟨rfl, rfl, rfl, rfl⟩ := H
                have hcz11_0 : wr.cell? ⟨gb101, 0, none⟩ = some (.int .i64 0) := (blk_cell BK101.out 0).trans rfl
                have hcz11_1 : wr.cell? ⟨gb101, 1, none⟩ = some (.int .i64 0) := (blk_cell BK101.out 1).trans rfl
                have hcz11_2 : wr.cell? ⟨gb101, 2, none⟩ = some (.int .i64 0) := (blk_cell BK101.out 2).trans rfl
                have hfz11_0 := blk_frozen BK101.out 0
                have hfz11_1 := blk_frozen BK101.out 1
                have hfz11_2 := blk_frozen BK101.out 2
                go_wp2
                refine bodyPost_ret (results_ct rfl _ _ gb101 23 #[.int .i64 0, .int .i64 0, .int .i64 0] (0, 0) _ rfl (by (with_reducible repeat (first | refine blk_drewN ?_ _ | refine blk_drew ?_ | refine blk_alloc ?_ _)); refine blk_put (cs := #[.int .i64 0, .int .i64 0, .int .i64 0]) ?_ 2 _ rfl; (with_reducible repeat (first | refine blk_drewN ?_ _ | refine blk_drew ?_ | refine blk_alloc ?_ _)); refine blk_put (cs := #[.int .i64 0, .int .i64 0, .int .i64 0]) ?_ 1 _ rfl; (with_reducible repeat (first | refine blk_drewN ?_ _ | refine blk_drew ?_ | refine blk_alloc ?_ _)); refine blk_put (cs := #[.int .i64 0, .int .i64 0, .int .i64 0]) ?_ 0 _ rfl; (with_reducible repeat (first | refine blk_drewN ?_ _ | refine blk_drew ?_ | refine blk_alloc ?_ _)); exact BK101.out) Tryd.underlying23 rfl (by kernel_rfl)) rfl ?_
                exact ⟨by first | rfl | (simp [errW_none, errW_some] <;> rfl) | (simp [*, errW_none, errW_some] <;> rfl), by repeat (first | (with_reducible first | exact HB.out | apply below_alloc | apply pw_below_drewN | apply below_drew1 | refine below_set ?_ GE101.out) | exact HB.out)⟩
              · rw [if_neg l0] at H
                have l0b0 : decide (bt a0 i < 48) = false := decide_eq_false l0
                have l0b1 : 48 ≤ bt a0 i := by omega
                clear l0
                by_cases l9 : bt a0 i > 57
                · rw [if_pos l9] at H
                  have l9b0 : decide (57 < bt a0 i) = true := decide_eq_true l9
                  clear l9
                  simp only [Option.some.injEq, Prod.mk.injEq] at H
                  obtain ⟨rfl, rfl, rfl, rfl⟩ := H
                  have hcz11_0 : wr.cell? ⟨gb101, 0, none⟩ = some (.int .i64 0) := (blk_cell BK101.out 0).trans rfl
                  have hcz11_1 : wr.cell? ⟨gb101, 1, none⟩ = some (.int .i64 0) := (blk_cell BK101.out 1).trans rfl
                  have hcz11_2 : wr.cell? ⟨gb101, 2, none⟩ = some (.int .i64 0) := (blk_cell BK101.out 2).trans rfl
                  have hfz11_0 := blk_frozen BK101.out 0
                  have hfz11_1 := blk_frozen BK101.out 1
                  have hfz11_2 := blk_frozen BK101.out 2
                  go_wp2
                  refine bodyPost_ret (results_ct rfl _ _ gb101 23 #[.int .i64 0, .int .i64 0, .int .i64 0] (0, 0) _ rfl (by (with_reducible repeat (first | refine blk_drewN ?_ _ | refine blk_drew ?_ | refine blk_alloc ?_ _)); refine blk_put (cs := #[.int .i64 0, .int .i64 0, .int .i64 0]) ?_ 2 _ rfl; (with_reducible repeat (first | refine blk_drewN ?_ _ | refine blk_drew ?_ | refine blk_alloc ?_ _)); refine blk_put (cs := #[.int .i64 0, .int .i64 0, .int .i64 0]) ?_ 1 _ rfl; (with_reducible repeat (first | refine blk_drewN ?_ _ | refine blk_drew ?_ | refine blk_alloc ?_ _)); refine blk_put (cs := #[.int .i64 0, .int .i64 0, .int .i64 0]) ?_ 0 _ rfl; (with_reducible repeat (first | refine blk_drewN ?_ _ | refine blk_drew ?_ | refine blk_alloc ?_ _)); exact BK101.out) Tryd.underlying23 rfl (by kernel_rfl)) rfl ?_
                  exact ⟨by first | rfl | (simp [errW_none, errW_some] <;> rfl) | (simp [*, errW_none, errW_some] <;> rfl), by repeat (first | (with_reducible first | exact HB.out | apply below_alloc | apply pw_below_drewN | apply below_drew1 | refine below_set ?_ GE101.out) | exact HB.out)⟩
                · rw [if_neg l9] at H
                  have l9b0 : decide (57 < bt a0 i) = false := decide_eq_false l9
                  have l9b1 : bt a0 i ≤ 57 := by omega
                  clear l9
                  by_cases p0 : p = 0
                  · rw [if_pos p0] at H
                    subst p0
                    have H' := Aside0.mk H
                    clear H
                    go_wp2
                    go_roundg n
                    case measure => have := HI.out; omega
                    case rel => exact ⟨0, i + 1, (wrap64 (wrap64 (10 * a) + (bt a0 i - 48))), b, c, (by first | rfl | (simp; done)), (by first | rfl | (simp; done)), ⟨by have := HI.out; have := E9.out; omega⟩, H', ⟨by refine obj_far ?_ NBS.out _; exact BS.out⟩, ⟨by refine blk_far ?_ NB14.out _; exact BK101.out⟩, ⟨by refine blk_put (cs := #[.int .i64 a, .int .i64 b, .int .i64 c]) ?_ 0 _ (by first | rfl | (simp; done)); exact BK4.out⟩, ⟨below_set HB.out GE4.out⟩⟩
                  · rw [if_neg p0] at H
                    by_cases p1 : p = 1
                    · rw [if_pos p1] at H
                      subst p1
                      have H' := Aside0.mk H
                      clear H
                      go_wp2
                      go_roundg n
                      case measure => have := HI.out; omega
                      case rel => exact ⟨1, i + 1, a, (wrap64 (wrap64 (10 * b) + (bt a0 i - 48))), c, (by first | rfl | (simp; done)), (by first | rfl | (simp; done)), ⟨by have := HI.out; have := E9.out; omega⟩, H', ⟨by refine obj_far ?_ NBS.out _; exact BS.out⟩, ⟨by refine blk_far ?_ NB14.out _; exact BK101.out⟩, ⟨by refine blk_put (cs := #[.int .i64 a, .int .i64 b, .int .i64 c]) ?_ 1 _ (by first | rfl | (simp; done)); exact BK4.out⟩, ⟨below_set HB.out GE4.out⟩⟩
                    · rw [if_neg p1] at H
                      by_cases p2 : p = 2
                      · rw [if_pos p2] at H
                        subst p2
                        have H' := Aside0.mk H
                        clear H
                        go_wp2
                        go_roundg n
                        case measure => have := HI.out; omega
                        case rel => exact ⟨2, i + 1, a, b, (wrap64 (wrap64 (10 * c) + (bt a0 i - 48))), (by first | rfl | (simp; done)), (by first | rfl | (simp; done)), ⟨by have := HI.out; have := E9.out; omega⟩, H', ⟨by refine obj_far ?_ NBS.out _; exact BS.out⟩, ⟨by refine blk_far ?_ NB14.out _; exact BK101.out⟩, ⟨by refine blk_put (cs := #[.int .i64 a, .int .i64 b, .int .i64 c]) ?_ 2 _ (by first | rfl | (simp; done)); exact BK4.out⟩, ⟨below_set HB.out GE4.out⟩⟩
                      · rw [if_neg p2] at H
                        exact absurd H (by simp)

end Go.Proofs.YtdebllinaffceaaDoor.M
