/- The reference's bound, none. -/
import Derived.Test.YtmfbdmjgkcijcaaDoorZV
import Derived.Test.YtmfbdmjgkcijcaaDoorZRJ
import Derived.Test.YtmfbdmjgkcijcaaDoorZHY
namespace Go.Proofs.YtmfbdmjgkcijcaaDoor.H
open Go.RowKit Go.Proofs.YtmfbdmjgkcijcaaDoorW.PrintWords Go.Proofs.YtmfbdmjgkcijcaaDoorW.PrintLast Go.Proofs.YtmfbdmjgkcijcaaDoorW.PrintMore
open Go.ChangeMaps (setBlock)
attribute [local go_sem] max2_int min2_int max_two min_two max_three min_three max_four min_four
set_option linter.unusedVariables false
set_option linter.unusedSimpArgs false
open Go.Proofs.YtmfbdmjgkcijcaaDoor.M
def boundR (nn nc np : Nat) (cel slo op : Int) : Int := if op = 1 then np else if op = 3 then nn else if op = 28 then nc else if op = 4 ∨ op = 5 then cel else if op = 6 ∨ op = 7 then slo else 262144
set_option maxHeartbeats 4000000 in
set_option maxRecDepth 100000 in
theorem bound_calls (A0 : Option Addr) (n0 c0 : Nat) (A1 : Option Addr) (n1 c1 : Nat) (A2 : Option Addr) (n2 c2 : Nat) (hor cel slo sta : Int) (v7 : Value) (op : Int) (w : World) :
    Calls Tryd.prog 56 #[.agg #[.slice A0 n0 c0, .slice A1 n1 c1, .slice A2 n2 c2, .int .i64 hor, .int .i64 cel, .int .i64 slo, .int .i64 sta, v7], .int .i64 op] w fun e w' => e = .returned (.int .i64 (boundR n0 n1 n2 cel slo op)) ∧ Fr w w' [] := by
  have hup := Tryd.underlying26
  obtain ⟨R, hR⟩ : ∃ x, boundR n0 n1 n2 cel slo op = x := ⟨_, rfl⟩
  rw [hR]
  unfold boundR at hR
  have hcs : op = 1 ∨ op = 3 ∨ op = 28 ∨ op = 4 ∨ op = 5 ∨ op = 6 ∨ op = 7 ∨ (op ≠ 1 ∧ op ≠ 3 ∧ op ≠ 28 ∧ op ≠ 4 ∧ op ≠ 5 ∧ op ≠ 6 ∧ op ≠ 7) := by omega
  rcases hcs with rfl | rfl | rfl | rfl | rfl | rfl | rfl | ⟨k1, k3, k28, k4, k5, k6, k7⟩
  case inr.inr.inr.inr.inr.inr.inr =>
    rw [if_neg k1, if_neg k3, if_neg k28, if_neg (by omega), if_neg (by omega)] at hR
    subst hR
    have e1 : (op == 1) = false := by simpa using k1
    have e3 : (op == 3) = false := by simpa using k3
    have e28 : (op == 28) = false := by simpa using k28
    have e4 : (op == 4) = false := by simpa using k4
    have e5 : (op == 5) = false := by simpa using k5
    have e6 : (op == 6) = false := by simpa using k6
    have e7 : (op == 7) = false := by simpa using k7
    clear k1 k3 k28 k4 k5 k6 k7
    go_enter Tryd.func56, Tryd.ntmps56
    go_wp2
    go_ret
    exact ⟨rfl, FQ⟩
  all_goals (
    simp at hR
    subst hR
    go_enter Tryd.func56, Tryd.ntmps56
    go_wp2
    go_ret
    exact ⟨rfl, FQ⟩)
set_option maxHeartbeats 4000000 in
set_option maxRecDepth 100000 in
theorem none_calls (A : Option Addr) (c : Nat) (l : List Int) (w : World) (hC : (Kd.int .i64).C w A l.length l) : Calls Tryd.prog 39 #[.slice A l.length c] w fun e w' => e = .returned (.bool (l.any (fun x => decide (x = 0)))) ∧ Drawn0 w w' := by
  have HC := Aside0.mk hC
  have hl63 := Kd.C_max hC
  clear hC
  obtain ⟨R, hR⟩ : ∃ x, l.any (fun x => decide (x = 0)) = x := ⟨_, rfl⟩
  have HR := Aside0.mk hR
  rw [hR]
  clear hR
  go_enter Tryd.func39, Tryd.ntmps39
  go_wp2
  go_loopg [3] l.length (fun kq x wr => ∃ k : Nat, x = .int .i64 k ∧ k ≤ l.length ∧ Aside0 (l.length - k ≤ kq) ∧ Drawn0 w wr ∧ Aside0 ((l.take k).any (fun x => decide (x = 0)) = false))
  case atStart => exact ⟨0, rfl, Nat.zero_le _, ⟨Nat.le_refl _⟩, DQ, ⟨rfl⟩⟩
  case round =>
    obtain ⟨k, rfl, hk, HM, ⟨nk, rfl⟩, HA⟩ := hrel
    by_cases hkl : k < l.length
    · have n3 : decide (k < l.length) = true := by simpa using hkl
      obtain ⟨ad, rfl, h1⟩ := int_at HC.out k hkl
      obtain ⟨x, hx⟩ : ∃ x, l.getD k 0 = x := ⟨_, rfl⟩
      rw [hx] at h1
      have HX := Aside0.mk (getD_get hkl hx)
      clear hx
      by_cases h0 : x = 0
      · have n4 : (x == 0) = true := by simpa using h0
        have H0 := Aside0.mk h0
        clear h0
        go_wp2
        go_ret
        obtain rfl : true = R := by rw [← HR.out]; exact (List.any_eq_true.2 ⟨x, List.mem_of_getElem? HX.out, by simpa using H0.out⟩).symm
        exact ⟨rfl, DQ⟩
      · have n4 : (x == 0) = false := by simpa using h0
        have H0 := Aside0.mk h0
        clear h0
        go_wp2
        go_roundg (l.length - (k + 1))
        case measure => have := HM.out; omega
        case rel => exact ⟨k + 1, by go_num, by omega, ⟨Nat.le_refl _⟩, DQ, ⟨any_snoc _ _ HX.out HA.out (by simpa using H0.out)⟩⟩
    · obtain rfl : k = l.length := by omega
      have n3 : decide (l.length < l.length) = false := by simp
      obtain rfl : false = R := by have := HA.out; rw [List.take_length, HR.out] at this; exact this.symm
      go_wp2
      go_ret
      exact ⟨rfl, DQ⟩
end Go.Proofs.YtmfbdmjgkcijcaaDoor.H
