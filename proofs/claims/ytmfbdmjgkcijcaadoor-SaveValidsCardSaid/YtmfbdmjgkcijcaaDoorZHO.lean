/- image: what the code names. -/
import Derived.Test.YtmfbdmjgkcijcaaDoorZV
import Derived.Test.YtmfbdmjgkcijcaaDoorZHN
namespace Go.Proofs.YtmfbdmjgkcijcaaDoor.H
open Go.RowKit Go.Proofs.YtmfbdmjgkcijcaaDoorW.PrintWords Go.Proofs.YtmfbdmjgkcijcaaDoorW.PrintLast Go.Proofs.YtmfbdmjgkcijcaaDoorW.PrintMore
open Go.ChangeMaps (setBlock)
attribute [local go_sem] max2_int min2_int max_two min_two max_three min_three max_four min_four
set_option linter.unusedVariables false
set_option linter.unusedSimpArgs false
open Go.Proofs.YtmfbdmjgkcijcaaDoor.M
def bcells (l : List Bool) : Array Value := (l.map Value.bool).toArray
theorem bcells_set (l : List Bool) (n : Nat) (b : Bool) : (bcells l).setIfInBounds n (.bool b) = bcells (l.set n b) := by simp [bcells, List.map_set]
theorem bcells_get (l : List Bool) (n : Nat) (h : n < l.length) : (bcells l)[n]? = some (.bool (l.getD n false)) := by simp [bcells, List.getD_eq_getElem?_getD, List.getElem?_eq_getElem h]
structure Uses (w : World) (u g1 g2 g3 : Nat) (bn bc bp : List Bool) : Prop where
  blk : w.heap[u]? = some (.cells #[.slice (some ⟨g1, 0, none⟩) bn.length bn.length, .slice (some ⟨g2, 0, none⟩) bc.length bc.length, .slice (some ⟨g3, 0, none⟩) bp.length bp.length] 104 (0, 0))
  n1 : w.heap[g1]? = some (.cells (bcells bn) 4 (0, 0))
  n2 : w.heap[g2]? = some (.cells (bcells bc) 4 (0, 0))
  n3 : w.heap[g3]? = some (.cells (bcells bp) 4 (0, 0))
  d12 : g1 ≠ g2
  d13 : g1 ≠ g3
  d23 : g2 ≠ g3
theorem Uses.ne {w : World} {u g1 g2 g3 : Nat} {bn bc bp : List Bool} (h : Uses w u g1 g2 g3 bn bc bp) : u ≠ g1 ∧ u ≠ g2 ∧ u ≠ g3 := by
  refine ⟨fun e => ?_, fun e => ?_, fun e => ?_⟩
  · have := h.blk; rw [e, h.n1] at this; simp at this
  · have := h.blk; rw [e, h.n2] at this; simp at this
  · have := h.blk; rw [e, h.n3] at this; simp at this
theorem Uses.fr {w w' : World} {u g1 g2 g3 : Nat} {bn bc bp : List Bool} (h : Uses w u g1 g2 g3 bn bc bp) (hf : Fr w w' []) : Uses w' u g1 g2 g3 bn bc bp :=
  ⟨hf.blk h.blk (by simp), hf.blk h.n1 (by simp), hf.blk h.n2 (by simp), hf.blk h.n3 (by simp), h.d12, h.d13, h.d23⟩
theorem Uses.set1 {w : World} {u g1 g2 g3 : Nat} {bn bc bp : List Bool} (h : Uses w u g1 g2 g3 bn bc bp) (n : Nat) : Uses (w.setCell ⟨g1, n, none⟩ (.bool true)) u g1 g2 g3 (bn.set n true) bc bp :=
  ⟨by rw [List.length_set]; exact at_far h.blk h.ne.1 _, by rw [← bcells_set]; exact blk_set h.n1 n _, at_far h.n2 (Ne.symm h.d12) _, at_far h.n3 (Ne.symm h.d13) _, h.d12, h.d13, h.d23⟩
theorem Uses.set2 {w : World} {u g1 g2 g3 : Nat} {bn bc bp : List Bool} (h : Uses w u g1 g2 g3 bn bc bp) (n : Nat) : Uses (w.setCell ⟨g2, n, none⟩ (.bool true)) u g1 g2 g3 bn (bc.set n true) bp :=
  ⟨by rw [List.length_set]; exact at_far h.blk h.ne.2.1 _, at_far h.n1 h.d12 _, by rw [← bcells_set]; exact blk_set h.n2 n _, at_far h.n3 (Ne.symm h.d23) _, h.d12, h.d13, h.d23⟩
theorem Uses.set3 {w : World} {u g1 g2 g3 : Nat} {bn bc bp : List Bool} (h : Uses w u g1 g2 g3 bn bc bp) (n : Nat) : Uses (w.setCell ⟨g3, n, none⟩ (.bool true)) u g1 g2 g3 bn bc (bp.set n true) :=
  ⟨by rw [List.length_set]; exact at_far h.blk h.ne.2.2 _, at_far h.n1 h.d13 _, at_far h.n2 h.d23 _, by rw [← bcells_set]; exact blk_set h.n3 n _, h.d12, h.d13, h.d23⟩
abbrev BL : Type := List Bool × List Bool × List Bool
def useStep (cel slo op A : Int) (b : BL) : Bool × BL :=
  if op = 1 then (if (b.2.2.length : Int) ≤ A then (false, b) else (true, b.1, b.2.1, b.2.2.set A.toNat true))
  else if op = 3 then (if (b.1.length : Int) ≤ A then (false, b) else (true, b.1.set A.toNat true, b.2.1, b.2.2))
  else if op = 28 then (if (b.2.1.length : Int) ≤ A then (false, b) else (true, b.1, b.2.1.set A.toNat true, b.2.2))
  else if op = 4 ∨ op = 5 then (decide (A < cel), b)
  else if op = 6 ∨ op = 7 then (decide (A < slo), b)
  else (true, b)
def UsePost (w : World) (u g1 g2 g3 : Nat) (r : Bool × BL) (e : Ending) (w' : World) : Prop := e = .returned (.bool r.1) ∧ Fr w w' [g1, g2, g3] ∧ Uses w' u g1 g2 g3 r.2.1 r.2.2.1 r.2.2.2
set_option maxHeartbeats 4000000 in
set_option maxRecDepth 100000 in
theorem use_calls (u g1 g2 g3 : Nat) (bn bc bp : List Bool) (v0 v1 v2 v3 : Value) (cel slo : Int) (v6 v7 : Value) (op A B : Int) (w : World) (hU : Uses w u g1 g2 g3 bn bc bp) (hA : 0 ≤ A) (hbn : bn.length ≤ 1000000) (hbc : bc.length ≤ 1000000) (hbp : bp.length ≤ 1000000) :
    Calls Tryd.prog 70 #[.pointer (some ⟨u, 0, none⟩), .agg #[v0, v1, v2, v3, .int .i64 cel, .int .i64 slo, v6, v7], .agg #[.int .i64 op, .int .i64 A, .int .i64 B]] w (UsePost w u g1 g2 g3 (useStep cel slo op A (bn, bc, bp))) := by
  obtain ⟨n, rfl⟩ : ∃ n : Nat, A = n := ⟨A.toNat, by omega⟩
  have ul := blk_lt hU.blk
  have u0 := blk_cell hU.blk 0
  have u1 := blk_cell hU.blk 1
  have u2 := blk_cell hU.blk 2
  have l1 := blk_lt hU.n1
  have l2 := blk_lt hU.n2
  have l3 := blk_lt hU.n3
  have z1 := blk_frozen hU.n1 n
  have z2 := blk_frozen hU.n2 n
  have z3 := blk_frozen hU.n3 n
  have HU := Aside0.mk hU
  have HB2 : Aside0 (∀ {a b : Obj}, Fr w ((w.alloc a).alloc b) []) := ⟨fun {a b} => FQ⟩
  have p0 : (0 : Int) ≤ (n : Int) := by omega
  have t1 := blk_cell hU.n1 n
  have t2 := blk_cell hU.n2 n
  have t3 := blk_cell hU.n3 n
  clear hU
  have hcs : op = 1 ∨ op = 3 ∨ op = 28 ∨ op = 4 ∨ op = 5 ∨ op = 6 ∨ op = 7 ∨ ((op == 1) = false ∧ (op == 3) = false ∧ (op == 28) = false ∧ (op == 4) = false ∧ (op == 5) = false ∧ (op == 6) = false ∧ (op == 7) = false) := by
    simp only [beq_eq_false_iff_ne, ne_eq]; omega
  rcases hcs with rfl | rfl | rfl | rfl | rfl | rfl | rfl | ⟨e1, e3, e28, e4, e5, e6, e7⟩
  · by_cases h : (bp.length : Int) ≤ n
    · have n9 : decide (bp.length ≤ n) = true := by simp; omega
      rw [show useStep cel slo 1 n (bn, bc, bp) = (false, bn, bc, bp) by unfold useStep; simp [h]]
      go_enter Tryd.func70, Tryd.ntmps70
      go_wp2
      go_ret
      exact ⟨rfl, FQ, HU.out.fr FQ⟩
    · have n9 : decide (bp.length ≤ n) = false := by simp; omega
      have p1 : (n : Int) < bp.length := by omega
      have t9 : w.cell? ⟨g3, n, none⟩ = some (.bool (bp.getD n false)) := t3.trans (bcells_get bp n (by omega))
      clear t1 t2 t3
      rw [show useStep cel slo 1 n (bn, bc, bp) = (true, bn, bc, bp.set n true) by unfold useStep; simp [h]]
      go_enter Tryd.func70, Tryd.ntmps70
      go_wp2
      go_ret
      exact ⟨rfl, FQ, (HU.out.set3 n).fr FQ⟩
  · by_cases h : (bn.length : Int) ≤ n
    · have n9 : decide (bn.length ≤ n) = true := by simp; omega
      rw [show useStep cel slo 3 n (bn, bc, bp) = (false, bn, bc, bp) by unfold useStep; simp [h]]
      go_enter Tryd.func70, Tryd.ntmps70
      go_wp2
      go_ret
      exact ⟨rfl, FQ, HU.out.fr FQ⟩
    · have n9 : decide (bn.length ≤ n) = false := by simp; omega
      have p1 : (n : Int) < bn.length := by omega
      have t9 : w.cell? ⟨g1, n, none⟩ = some (.bool (bn.getD n false)) := t1.trans (bcells_get bn n (by omega))
      clear t1 t2 t3
      rw [show useStep cel slo 3 n (bn, bc, bp) = (true, bn.set n true, bc, bp) by unfold useStep; simp [h]]
      go_enter Tryd.func70, Tryd.ntmps70
      go_wp2
      go_ret
      exact ⟨rfl, FQ, (HU.out.set1 n).fr FQ⟩
  · by_cases h : (bc.length : Int) ≤ n
    · have n9 : decide (bc.length ≤ n) = true := by simp; omega
      rw [show useStep cel slo 28 n (bn, bc, bp) = (false, bn, bc, bp) by unfold useStep; simp [h]]
      go_enter Tryd.func70, Tryd.ntmps70
      go_wp2
      go_ret
      exact ⟨rfl, FQ, HU.out.fr FQ⟩
    · have n9 : decide (bc.length ≤ n) = false := by simp; omega
      have p1 : (n : Int) < bc.length := by omega
      have t9 : w.cell? ⟨g2, n, none⟩ = some (.bool (bc.getD n false)) := t2.trans (bcells_get bc n (by omega))
      clear t1 t2 t3
      rw [show useStep cel slo 28 n (bn, bc, bp) = (true, bn, bc.set n true, bp) by unfold useStep; simp [h]]
      go_enter Tryd.func70, Tryd.ntmps70
      go_wp2
      go_ret
      exact ⟨rfl, FQ, (HU.out.set2 n).fr FQ⟩
  · rw [show useStep cel slo 4 n (bn, bc, bp) = (decide ((n : Int) < cel), bn, bc, bp) by unfold useStep; simp]
    go_enter Tryd.func70, Tryd.ntmps70
    go_wp2
    go_ret
    exact ⟨rfl, FQ, HU.out.fr FQ⟩
  · rw [show useStep cel slo 5 n (bn, bc, bp) = (decide ((n : Int) < cel), bn, bc, bp) by unfold useStep; simp]
    go_enter Tryd.func70, Tryd.ntmps70
    go_wp2
    go_ret
    exact ⟨rfl, FQ, HU.out.fr FQ⟩
  · rw [show useStep cel slo 6 n (bn, bc, bp) = (decide ((n : Int) < slo), bn, bc, bp) by unfold useStep; simp]
    go_enter Tryd.func70, Tryd.ntmps70
    go_wp2
    go_ret
    exact ⟨rfl, FQ, HU.out.fr FQ⟩
  · rw [show useStep cel slo 7 n (bn, bc, bp) = (decide ((n : Int) < slo), bn, bc, bp) by unfold useStep; simp]
    go_enter Tryd.func70, Tryd.ntmps70
    go_wp2
    go_ret
    exact ⟨rfl, FQ, HU.out.fr FQ⟩
  · rw [show useStep cel slo op n (bn, bc, bp) = (true, bn, bc, bp) by simp only [beq_eq_false_iff_ne, ne_eq] at e1 e3 e28 e4 e5 e6 e7; unfold useStep; simp [e1, e3, e28, e4, e5, e6, e7]]
    go_enter Tryd.func70, Tryd.ntmps70
    go_wp2
    go_ret
    exact ⟨rfl, FQ, HU.out.fr FQ⟩
def dayStep (cel slo : Int) (n : Nat) (k : Nat) (x : S64) (b : BL) : Bool × BL :=
  if validC x.f0 x.f1 x.f2 ≠ 0 then (false, b) else if (decide (x.f0 = 0) != decide (k + 1 = n)) = true then (false, b) else useStep cel slo x.f0 x.f1 b
def dayRun (cel slo : Int) (code : List S64) : Nat → Nat → BL → Bool × BL
  | 0, _, b => (true, b)
  | m + 1, k, b => if (dayStep cel slo code.length k (code.getD k z64) b).1 = true then dayRun cel slo code m (k + 1) (dayStep cel slo code.length k (code.getD k z64) b).2 else (dayStep cel slo code.length k (code.getD k z64) b)
def dayU (cel slo : Int) (code : List S64) (b : BL) : Bool × BL := if code.length < 2 then (false, b) else dayRun cel slo code code.length 0 b
end Go.Proofs.YtmfbdmjgkcijcaaDoor.H
