/- places: where the run goes on behind an instruction. -/
import Derived.Test.YtmfbdmjgkcijcaaDoorZV
import Derived.Test.YtmfbdmjgkcijcaaDoorZHV
import Derived.Test.YtmfbdmjgkcijcaaDoorZMx0
namespace Go.Proofs.YtmfbdmjgkcijcaaDoor.H
open Go.RowKit Go.Proofs.YtmfbdmjgkcijcaaDoorW.PrintWords Go.Proofs.YtmfbdmjgkcijcaaDoorW.PrintLast Go.Proofs.YtmfbdmjgkcijcaaDoorW.PrintMore
open Go.ChangeMaps (setBlock)
attribute [local go_sem] max2_int min2_int max_two min_two max_three min_three max_four min_four
set_option linter.unusedVariables false
set_option linter.unusedSimpArgs false
open Go.Proofs.YtmfbdmjgkcijcaaDoor.M
def placesL (x : S64) (k : Nat) : List Int := if x.f0 = 0 then [] else if x.f0 = 26 then [(k : Int) + 1 + x.f1] else if x.f0 = 27 then [(k : Int) + 1, (k : Int) + 1 + x.f1] else [(k : Int) + 1]
/-- An instruction of a list, in memory. -/
theorem instr_at {w : World} {A : Option Addr} {n : Nat} {xs : List S64} (h : Kd.C k64 w A n xs) (k : Nat) (hk : k < n) : ∃ ad, A = some ad ∧ w.cell? (ad.add (k * 3)) = some (.int .i64 (xs.getD k z64).f0) ∧ w.cell? ⟨(ad.add (k * 3)).block, (ad.add (k * 3)).off + 1, none⟩ = some (.int .i64 (xs.getD k z64).f1) ∧ w.cell? ⟨(ad.add (k * 3)).block, (ad.add (k * 3)).off + 2, none⟩ = some (.int .i64 (xs.getD k z64).f2) := by
  obtain ⟨ad, e, h0, h1, h2⟩ := at_T64 h (k : Int) (by omega) (by omega)
  simp only [rd_T64, Int.toNat_natCast] at h0 h1 h2
  exact ⟨ad, e, h0, h1, h2⟩
set_option maxHeartbeats 4000000 in
set_option maxRecDepth 100000 in
theorem places_calls (A : Option Addr) (c : Nat) (l : List S64) (k : Nat) (hk : k < l.length) (w : World) (hC : Kd.C k64 w A l.length l) (hc : l.length ≤ c) (hl : l.length ≤ 1000000) (x : S64) (hx : l.getD k z64 = x) (hx0 : 0 ≤ x.f1) (hx1 : x.f1 ≤ 1000000) :
    Calls Tryd.prog 51 #[.slice A l.length c, .int .i64 k] w fun e w' => ∃ v, e = .returned v ∧ Fr w w' [] ∧ IntsV w' v (placesL x k) ∧ ∀ g, v.ownBlock = some g → w.heap.size ≤ g := by
  obtain ⟨ad, rfl, h0, h1, h2⟩ := instr_at hC k hk
  rw [hx] at h0 h1 h2
  clear hx hC
  obtain ⟨op, a, b⟩ := x
  simp only at h0 h1 h2 hx0 hx1
  have hu := Tryd.underlying64
  have b0 : (0 : Int) ≤ (k : Int) := by omega
  have b1 : (k : Int) < l.length := by omega
  have hcs : op = 0 ∨ op = 26 ∨ op = 27 ∨ ((op == 0) = false ∧ (op == 26) = false ∧ (op == 27) = false) := by simp only [beq_eq_false_iff_ne, ne_eq]; omega
  rcases hcs with rfl | rfl | rfl | ⟨e0, e1, e2⟩
  · rw [show placesL ⟨0, a, b⟩ k = [] by simp [placesL]]
    go_enter Tryd.func51, Tryd.ntmps51
    go_wp2
    go_ret
    exact ⟨_, rfl, FQ, .inl ⟨rfl, rfl⟩, fun g hg => by cases hg⟩
  · rw [show placesL ⟨26, a, b⟩ k = [(k : Int) + 1 + a] by simp [placesL]]
    go_enter Tryd.func51, Tryd.ntmps51
    go_wp2
    go_ret
    exact ⟨_, rfl, FQ, .inr ⟨_, rfl, blk_newN (by simp)⟩, fun g hg => by cases hg; simp⟩
  · rw [show placesL ⟨27, a, b⟩ k = [(k : Int) + 1, (k : Int) + 1 + a] by simp [placesL]]
    go_enter Tryd.func51, Tryd.ntmps51
    go_wp2
    go_ret
    exact ⟨_, rfl, FQ, .inr ⟨_, rfl, blk_newN (by simp)⟩, fun g hg => by cases hg; simp⟩
  · rw [show placesL ⟨op, a, b⟩ k = [(k : Int) + 1] by simp only [beq_eq_false_iff_ne, ne_eq] at e0 e1 e2; simp [placesL, e0, e1, e2]]
    go_enter Tryd.func51, Tryd.ntmps51
    go_wp2
    go_ret
    exact ⟨_, rfl, FQ, .inr ⟨_, rfl, blk_newN (by simp)⟩, fun g hg => by cases hg; simp⟩
end Go.Proofs.YtmfbdmjgkcijcaaDoor.H
