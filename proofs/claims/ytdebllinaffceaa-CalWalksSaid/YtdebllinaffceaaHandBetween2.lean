import Derived.Test.YtdebllinaffceaaHandBetween
namespace Go.Proofs.Ytdebllinaffceaa.M
open Go.RowKit Go.Proofs.YtdebllinaffceaaW.PrintWords Go.Proofs.YtdebllinaffceaaW.PrintLast Go.Proofs.YtdebllinaffceaaW.PrintMore
attribute [local go_sem] Oper.semAt_some
attribute [local go_sem] max2_int min2_int max_two min_two max_three min_three max_four min_four
set_option linter.unusedVariables false
set_option linter.unusedSimpArgs false

theorem cal_walk.calls (f s : Int) (A : Option Addr) (n c bt : Nat) (w : World) : Calls Try.prog 18 #[.int .i64 f, .int .i64 s, .slice A n c, .func (.func 20) #[] #[.pointer (some ⟨bt, 0, none⟩)]] w fun e w' =>
    e = .returned (.func (.func 23) #[] #[.pointer (some ⟨w.heap.size, 0, none⟩), .pointer (some ⟨w.heap.size + 1 + 1 + 1, 0, none⟩), .pointer (some ⟨w.heap.size + 1, 0, none⟩), .pointer (some ⟨w.heap.size + 1 + 1, 0, none⟩)]) ∧
    w' = (((w.alloc (.cells #[.int .i64 f] 3)).alloc (.cells #[.int .i64 s] 3)).alloc (.cells #[.slice A n c] 27)).alloc (.cells #[.func (.func 20) #[] #[.pointer (some ⟨bt, 0, none⟩)]] 28) := by
  go_enter Try.func18, Try.ntmps18
  go_wp2
  go_ret
  exact ⟨by first | rfl | (simp; done), rfl⟩

theorem Cap.made {w w1 : World} {lim f0 : Int} {A : Option Addr} {c : Nat} {l : List Int} (hb1 : Below (w.alloc (.cells #[.int .i64 lim] 3)).heap.size (w.alloc (.cells #[.int .i64 lim] 3)) w1)
    (hv1 : (Kd.int .i64).R 3 w1 (w.alloc (.cells #[.int .i64 lim] 3)).heap.size (fun _ => True) (.slice A l.length c) l) :
    Cap ((((w1.alloc (.cells #[.int .i64 f0] 3)).alloc (.cells #[.int .i64 1] 3)).alloc (.cells #[.slice A l.length c] 27)).alloc (.cells #[.func (.func 20) #[] #[.pointer (some ⟨w.heap.size, 0, none⟩)]] 28)) w1.heap.size (w1.heap.size + 1 + 1 + 1) (w1.heap.size + 1) (w1.heap.size + 1 + 1) w.heap.size f0 lim A c l ∧
    Below w.heap.size w ((((w1.alloc (.cells #[.int .i64 f0] 3)).alloc (.cells #[.int .i64 1] 3)).alloc (.cells #[.slice A l.length c] 27)).alloc (.cells #[.func (.func 20) #[] #[.pointer (some ⟨w.heap.size, 0, none⟩)]] 28)) := by
  have hbw : Below w.heap.size w w1 := below_step ((Below.refl _ w).alloc (Nat.le_refl _) _) hb1
  have hsz := below_size hbw
  obtain ⟨_, hc, hC⟩ := Kd.R_reads' hv1
  have ht : w1.cell? ⟨w.heap.size, 0, none⟩ = some (.int .i64 lim) := by
    have g := (cell_new_l w (.int .i64 lim) 3).1
    exact (hb1.cell (World.block_lt_of_cell? _ _ g)).trans g
  refine ⟨⟨?_, ?_, ?_, ?_, ?_, ?_, hc⟩, ?_⟩
  · exact cell_alloc_l _ (cell_alloc_l _ (cell_alloc_l _ (cell_new_l w1 (.int .i64 f0) 3).1))
  · have g := (cell_new_l (((w1.alloc (.cells #[.int .i64 f0] 3)).alloc (.cells #[.int .i64 1] 3)).alloc (.cells #[.slice A l.length c] 27)) (.func (.func 20) #[] #[.pointer (some ⟨w.heap.size, 0, none⟩)]) 28).1
    simp only [World.size_alloc] at g
    exact g
  · have g := (cell_new_l (w1.alloc (.cells #[.int .i64 f0] 3)) (.int .i64 1) 3).1
    simp only [World.size_alloc] at g
    exact cell_alloc_l _ (cell_alloc_l _ g)
  · have g := (cell_new_l ((w1.alloc (.cells #[.int .i64 f0] 3)).alloc (.cells #[.int .i64 1] 3)) (.slice A l.length c) 27).1
    simp only [World.size_alloc] at g
    exact cell_alloc_l _ g
  · exact cell_alloc_l _ (cell_alloc_l _ (cell_alloc_l _ (cell_alloc_l _ ht)))
  · exact Kd.C_alloc (Kd.C_alloc (Kd.C_alloc (Kd.C_alloc hC _) _) _) _
  · exact (((hbw.alloc (by omega) _).alloc (by simp; omega) _).alloc (by simp; omega) _).alloc (by simp; omega) _

set_option maxHeartbeats 4000000 in
set_option maxRecDepth 100000 in
theorem cal_Between.calls (f lim : Int) (A0 : Option Addr) (c0 : Nat) (l : List Int) (w : World) (hr0 : Kd.C (Kd.int .i64) w A0 l.length l) (hc0 : l.length ≤ c0) (hl : l.length < 17592186044416) :
    Calls Try.prog 11 #[.int .i64 f, .int .i64 lim, .slice A0 l.length c0] w fun e w' => ∃ (bf bw bs bh bt : Nat) (A : Option Addr) (c : Nat),
      e = .returned (.func (.func 23) #[] #[.pointer (some ⟨bf, 0, none⟩), .pointer (some ⟨bw, 0, none⟩), .pointer (some ⟨bs, 0, none⟩), .pointer (some ⟨bh, 0, none⟩)]) ∧ Cap w' bf bw bs bh bt (if f < 0 then 0 else f) lim A c l ∧ Below w.heap.size w w' := by
  have HR0 := Aside0.mk hr0
  have HC0 := Aside0.mk hc0
  clear hr0 hc0
  have hcl : slices_Clone_int_int.f l = some l := by simp [slices_Clone_int_int.f, hl]
  have ACL := Aside0.mk hcl
  clear hcl
  refine (callsIn_wide (n := 6)).1 ?_
  refine callsIn_of_wp Try.func11 rfl trivial ?_ rfl
  simp only [Try.ntmps11, List.size_toArray, List.length_cons, List.length_nil, Nat.reduceAdd, Nat.reduceSub, Array.replicate_succ, Array.replicate_zero, List.push_toArray, List.append_toArray, List.nil_append, List.cons_append]
  gi_wp2_with (first | (refine ⟨trivial, ?_⟩; gi_at_call 19; refine (callsIn_wide.2 (slices_Clone_int_int.calls A0 c0 l l _ ?s1 HC0.out ACL.out)).mono ?_; (case s1 => repeat (first | exact HR0.out | (with_reducible refine Kd.C_alloc ?_ _))); rintro e w1 ⟨v1, rfl, hv1, hb1⟩; obtain ⟨A, c, ev⟩ := Kd.R_slice hv1; subst ev) | (refine ⟨trivial, ?_⟩; gi_at_call 18; refine (callsIn_wide.2 (cal_walk.calls _ 1 A _ c _ _)).mono ?_; rintro e w' ⟨rfl, rfl⟩))
  all_goals
    go_ret
    exact ⟨_, _, _, _, by first | rfl | (simp; done), ⟨_, _, _, (Cap.made hb1 hv1).1⟩, (Cap.made hb1 hv1).2⟩

theorem equal_func_nil (w : World) (fn : Fn) (xs ys : Array Value) : (Op.equal 32 (.func fn xs ys) .nilFunc).run Try.prog w = .ok false w := by
  unfold Op.equal Op.maxDepth
  rw [Op.equalIn]
  simp [go_sem]
theorem eql_func_nil (w : World) (fn : Fn) (xs ys : Array Value) : (binOp .eql 32 (.func fn xs ys) .nilFunc).run Try.prog w = .ok (.bool false) w := by
  simp [binOp, go_sem, equal_func_nil]
theorem neq_func_nil (w : World) (fn : Fn) (xs ys : Array Value) : (binOp .neq 32 (.func fn xs ys) .nilFunc).run Try.prog w = .ok (.bool true) w := by
  simp [binOp, go_sem, equal_func_nil]
end Go.Proofs.Ytdebllinaffceaa.M
