/- The reference's small functions: Effect, within, Valid, Takes, slot, without. -/
import Derived.Test.YtmfbdmjgkcijcaaDoorZV
import Derived.Test.YtmfbdmjgkcijcaaDoorZHK
import Derived.Test.YtmfbdmjgkcijcaaDoorZMx0
namespace Go.Proofs.YtmfbdmjgkcijcaaDoor.H
open Go.RowKit Go.Proofs.YtmfbdmjgkcijcaaDoorW.PrintWords Go.Proofs.YtmfbdmjgkcijcaaDoorW.PrintLast Go.Proofs.YtmfbdmjgkcijcaaDoorW.PrintMore
open Go.ChangeMaps (setBlock)
attribute [local go_sem] max2_int min2_int max_two min_two max_three min_three max_four min_four
set_option linter.unusedVariables false
set_option linter.unusedSimpArgs false
open Go.Proofs.YtmfbdmjgkcijcaaDoor.M
theorem tabs : ∀ i, i < 29 → (rRow i).2.2.2.1 = (kT i : Int) ∧ (rRow i).2.2.2.2 = (kP i : Int) ∧ ((rRow i).2.1 = (kRow i).2.2.1 ∨ ((rRow i).2.1 = -1 ∧ (kRow i).2.2.1 = 0)) ∧ ((rRow i).2.2.1 = (kRow i).2.2.2.1 ∨ ((rRow i).2.2.1 = -1 ∧ (kRow i).2.2.2.1 = 0)) ∧ 0 ≤ (kRow i).2.2.1 ∧ 0 ≤ (kRow i).2.2.2.1 := by
  have h : ∀ i : Fin 29, (rRow i).2.2.2.1 = (kT ((i : Nat) : Int) : Int) ∧ (rRow i).2.2.2.2 = (kP ((i : Nat) : Int) : Int) ∧ ((rRow i).2.1 = (kRow i).2.2.1 ∨ ((rRow i).2.1 = -1 ∧ (kRow i).2.2.1 = 0)) ∧ ((rRow i).2.2.1 = (kRow i).2.2.2.1 ∨ ((rRow i).2.2.1 = -1 ∧ (kRow i).2.2.2.1 = 0)) ∧ 0 ≤ (kRow i).2.2.1 ∧ 0 ≤ (kRow i).2.2.2.1 := by decide
  intro i hi
  exact h ⟨i, hi⟩
set_option maxHeartbeats 4000000 in
set_option maxRecDepth 100000 in
theorem rEffect_calls (op : Int) (h0 : 0 ≤ op) (h1 : op < 29) (w : World) (G : TabW w) : Calls Tryd.prog 60 #[.int .i64 op] w fun e w' => e = .returned (.tuple #[.int .i64 (kT op), .int .i64 (kP op), .int .i64 0]) ∧ Fr w w' [] := by
  obtain ⟨i, rfl⟩ : ∃ i : Nat, op = i := ⟨op.toNat, by omega⟩
  have hi : i < 29 := by omega
  have HR := row_yes i hi w G
  obtain ⟨e1, e2, _⟩ := tabs i hi
  rw [e1, e2] at HR
  clear e1 e2 G
  generalize (rRow i).1 = t0 at HR
  generalize (rRow i).2.1 = t1 at HR
  generalize (rRow i).2.2.1 = t2 at HR
  have HR := Aside0.mk HR
  have hu := Tryd.underlying155
  go_enter Tryd.func60, Tryd.ntmps60
  go_wp2_with (first | (go_at_call 81; (with_reducible refine (HR.out).mono ?_); rintro e W1 ⟨rfl, hF1⟩; have HF1 := Aside0.mk hF1; clear hF1))
  go_region
  all_goals (
    (try go_wp2)
    go_ret3
    exact ⟨rfl, by (with_reducible (repeat (first | exact Fr.refl _ _ | refine Fr.drew ?_ | refine Fr.drewN ?_ _ | refine Fr.alloc ?_ _ | refine Fr.setCell ?_ _ _ ?_))); exact HF1.out⟩)
def withinR (v b : Int) : Bool := if b < 0 then decide (v = 0) else decide (0 ≤ v ∧ v ≤ b)
set_option maxHeartbeats 4000000 in
set_option maxRecDepth 100000 in
theorem rWithin_calls (v b : Int) (w : World) : Calls Tryd.prog 82 #[.int .i64 v, .int .i64 b] w fun e w' => e = .returned (.bool (withinR v b)) ∧ Drawn0 w w' := by
  have hv : (v == 0) = decide (v = 0) := by by_cases h : v = 0 <;> simp [h]
  have hc : b < 0 ∨ (0 ≤ b ∧ v < 0) ∨ (0 ≤ b ∧ 0 ≤ v ∧ b < v) ∨ (0 ≤ b ∧ 0 ≤ v ∧ v ≤ b) := by omega
  rcases hc with h | ⟨h, h2⟩ | ⟨h, h2, h3⟩ | ⟨h, h2, h3⟩
  · obtain ⟨x, hx⟩ : ∃ x, decide (v = 0) = x := ⟨_, rfl⟩
    have e : withinR v b = x := by unfold withinR; rw [if_pos h]; exact hx
    rw [e]
    rw [hx] at hv
    clear e hx
    go_enter Tryd.func82, Tryd.ntmps82
    go_wp2
    go_ret
    exact ⟨(by first | rfl | (simp; done) | (simp [*]; done)), DQ⟩
  · rw [show withinR v b = false by unfold withinR; rw [if_neg (by omega)]; simp; omega]
    clear hv
    go_enter Tryd.func82, Tryd.ntmps82
    go_wp2
    go_ret
    exact ⟨(by first | rfl | (simp; done) | (simp [*]; done)), DQ⟩
  · rw [show withinR v b = false by unfold withinR; rw [if_neg (by omega)]; simp; omega]
    clear hv
    go_enter Tryd.func82, Tryd.ntmps82
    go_wp2
    go_ret
    exact ⟨(by first | rfl | (simp; done) | (simp [*]; done)), DQ⟩
  · rw [show withinR v b = true by unfold withinR; rw [if_neg (by omega)]; simp; omega]
    clear hv
    go_enter Tryd.func82, Tryd.ntmps82
    go_wp2
    go_ret
    exact ⟨(by first | rfl | (simp; done) | (simp [*]; done)), DQ⟩
theorem withinR_eq {v b k : Int} (h : b = k ∨ (b = -1 ∧ k = 0)) (hk : 0 ≤ k) : withinR v b = decide (0 ≤ v ∧ v ≤ k) := by
  unfold withinR
  rcases h with rfl | ⟨rfl, rfl⟩
  · rw [if_neg (by omega)]
  · rw [if_pos (by omega)]
    by_cases h : v = 0
    · subst h; rfl
    · simp [h]; omega
set_option maxHeartbeats 4000000 in
set_option maxRecDepth 100000 in
theorem rValid_no (op A B : Int) (hop : ¬ (0 ≤ op ∧ op < 29)) (w : World) : Calls Tryd.prog 55 #[.agg #[.int .i64 op, .int .i64 A, .int .i64 B]] w fun e w' => e = .returned (.int .i64 111) ∧ Fr w w' [] := by
  have HR := Aside0.mk (row_no op (by omega))
  have hu := Tryd.underlying155
  have hi := Tryd.underlying64
  go_enter Tryd.func55, Tryd.ntmps55
  go_wp2_with (first | (go_at_call 81; (with_reducible refine (HR.out _).mono ?_); rintro e W1 ⟨rfl, hF1⟩; have HF1 : Aside0 (Fr w W1 []) := ⟨Fr.trans (M := []) FQ hF1 (by simp)⟩; clear hF1))
  go_ret
  exact ⟨rfl, by (with_reducible (repeat (first | exact Fr.refl _ _ | refine Fr.drew ?_ | refine Fr.drewN ?_ _ | refine Fr.alloc ?_ _ | refine Fr.setCell ?_ _ _ ?_))); exact HF1.out⟩
set_option maxHeartbeats 4000000 in
set_option maxRecDepth 100000 in
theorem rValid_yes (i : Nat) (hi : i < 29) (A B : Int) (w : World) (G : TabW w) : Calls Tryd.prog 55 #[.agg #[.int .i64 i, .int .i64 A, .int .i64 B]] w fun e w' => e = .returned (.int .i64 (validC i A B)) ∧ Fr w w' [] := by
  obtain ⟨_, _, e3, e4, e5, e6⟩ := tabs i hi
  have hv : validC i A B = if 0 ≤ A ∧ A ≤ (kRow i).2.2.1 ∧ 0 ≤ B ∧ B ≤ (kRow i).2.2.2.1 then 0 else 111 := by
    unfold validC
    have e : ((i : Int)).toNat = i := by simp
    rw [e]
    by_cases h : 0 ≤ A ∧ A ≤ (kRow i).2.2.1 ∧ 0 ≤ B ∧ B ≤ (kRow i).2.2.2.1
    · rw [if_pos h, if_pos ⟨by omega, by omega, h.1, h.2.1, h.2.2.1, h.2.2.2⟩]
    · rw [if_neg h, if_neg (fun hh => h ⟨hh.2.2.1, hh.2.2.2.1, hh.2.2.2.2.1, hh.2.2.2.2.2⟩)]
  have hR := fun W (hf : Fr w W []) => row_yes i hi W (G.fr0 hf)
  have hA := withinR_eq (v := A) e3 e5
  have hB := withinR_eq (v := B) e4 e6
  clear G
  generalize (rRow i).1 = t0 at hR
  generalize (rRow i).2.1 = t1 at hR hA
  generalize (rRow i).2.2.1 = t2 at hR hB
  generalize (rRow i).2.2.2.1 = t3 at hR
  generalize (rRow i).2.2.2.2 = t4 at hR
  have HR := Aside0.mk hR
  obtain ⟨ba, hba⟩ : ∃ x, withinR A t1 = x := ⟨_, rfl⟩
  obtain ⟨bb, hbb⟩ : ∃ x, withinR B t2 = x := ⟨_, rfl⟩
  have hfin : validC i A B = if ba = true ∧ bb = true then 0 else 111 := by
    rw [hv, ← hba, ← hbb, hA, hB]
    simp [and_assoc]
  rw [hfin]
  have HA : Aside0 (∀ W, Calls Tryd.prog 82 #[.int .i64 A, .int .i64 t1] W fun e w' => e = .returned (.bool ba) ∧ Drawn0 W w') := ⟨fun W => hba ▸ rWithin_calls A t1 W⟩
  have HB : Aside0 (∀ W, Calls Tryd.prog 82 #[.int .i64 B, .int .i64 t2] W fun e w' => e = .returned (.bool bb) ∧ Drawn0 W w') := ⟨fun W => hbb ▸ rWithin_calls B t2 W⟩
  clear hfin hv hA hB hba hbb hR e3 e4 e5 e6
  have hu := Tryd.underlying155
  have hin := Tryd.underlying64
  cases ba <;> cases bb
  all_goals (
    go_enter Tryd.func55, Tryd.ntmps55
    go_wp2_with (first | (go_at_call 81; (with_reducible refine (HR.out _ ?_).mono ?_); (next => exact FQ); rintro e W1 ⟨rfl, hF1⟩; have HX1 := Aside0.mk (hF1.blk (g := w.heap.size) (blk_newN rfl) (by simp)); have HF1 : Aside0 (Fr w W1 []) := ⟨Fr.trans (M := []) FQ hF1 (by simp)⟩; have hxl := blk_lt HX1.out; have x1 := blk_cell HX1.out 1; have x2 := blk_cell HX1.out 2; clear hF1) | (go_at_call 82; (with_reducible refine (HA.out _).mono ?_); rintro e w' ⟨rfl, ⟨nd, rfl⟩⟩) | (go_at_call 82; (with_reducible refine (HB.out _).mono ?_); rintro e w' ⟨rfl, ⟨nd2, rfl⟩⟩))
    go_ret
    exact ⟨(by first | rfl | (simp; done) | (simp [*]; done)), by (with_reducible (repeat (first | exact Fr.refl _ _ | refine Fr.drew ?_ | refine Fr.drewN ?_ _ | refine Fr.alloc ?_ _ | refine Fr.setCell ?_ _ _ ?_))); exact HF1.out⟩)
theorem rValid_calls (op A B : Int) (w : World) (G : TabW w) : Calls Tryd.prog 55 #[.agg #[.int .i64 op, .int .i64 A, .int .i64 B]] w fun e w' => e = .returned (.int .i64 (validC op A B)) ∧ Fr w w' [] := by
  by_cases h : 0 ≤ op ∧ op < 29
  · obtain ⟨i, rfl⟩ : ∃ i : Nat, op = i := ⟨op.toNat, by omega⟩
    exact rValid_yes i (by omega) A B w G
  · rw [show validC op A B = 111 by unfold validC; rw [if_neg (fun hh => h ⟨hh.1, hh.2.1⟩)]]
    exact rValid_no op A B h w
end Go.Proofs.YtmfbdmjgkcijcaaDoor.H
namespace Go.Proofs.YtmfbdmjgkcijcaaDoor.M
open Go.RowKit Go.Proofs.YtmfbdmjgkcijcaaDoorW.PrintWords Go.Proofs.YtmfbdmjgkcijcaaDoorW.PrintLast Go.Proofs.YtmfbdmjgkcijcaaDoorW.PrintMore
attribute [local go_sem] max2_int min2_int max_two min_two max_three min_three max_four min_four   -- for this text's walks alone
set_option linter.unusedVariables false
set_option linter.unusedSimpArgs false

/-! ### image_rising_int: function 62 -/
def image_rising_int.l0 : Nat → List Int → Int → Option (Bool)
  | 0, _, _ => none
  | k + 1, x0, x3 => if x3 < (x0.length : Int) then (if 0 ≤ x3 then (if 0 ≤ (wrap64 (x3 - 1)) then (if (wrap64 (x3 - 1)) < (x0.length : Int) then (if (rd x0 x3) ≤ (rd x0 (wrap64 (x3 - 1))) then (some false) else (image_rising_int.l0 k x0 (wrap64 (x3 + 1)))) else (none)) else (none)) else (none)) else (some true)
def image_rising_int.f (k : Nat) (l0 : List Int) : Option (Bool) := image_rising_int.l0 k l0 1
set_option maxHeartbeats 8000000 in
set_option maxRecDepth 100000 in
theorem image_rising_int.calls (k : Nat) (A0 : Option Addr) (c0 : Nat) (l0 : List Int) (r : Bool) (w : World) (hr0 : Kd.C (Kd.int .i64) w A0 l0.length l0) (hc0 : l0.length ≤ c0) (h : image_rising_int.f k l0 = some r) :
    Calls Tryd.prog 62 #[.slice A0 l0.length c0] w fun e w' => e = .returned (.bool r) ∧ Drawn0 w w' := by
  have HR0 := Aside0.mk hr0
  have HC0 := Aside0.mk hc0
  clear hr0 hc0
  have H : (image_rising_int.l0 k l0 1) = some r := h
  clear h
  have H' := Aside0.mk H
  clear H
  go_enter Tryd.func62, Tryd.ntmps62
  go_wp2
  repeat (go_quiet (fail); try go_wp2)
  go_loopg [3] k (fun kq v3 w' => ∃ (x3_1 : Int), v3 = .int .i64 x3_1 ∧ Aside0 (image_rising_int.l0 kq l0 x3_1 = some r) ∧ Aside0 (kq ≤ k) ∧ Drawn0 w w')
  case atStart => exact ⟨(1), (by first | rfl | (simp; done) | (simp [*]; done)), H', ⟨Nat.le_refl _⟩, by repeat (first | exact Drawn0.refl _ | apply Drawn0.step)⟩
  case round =>
    clear H'
    obtain ⟨x3_1, rfl, HA, HK1, ⟨m1, rfl⟩⟩ := hrel
    cases gk with
    | zero => exact absurd HA.out (by simp [image_rising_int.l0])
    | succ k1 =>
      have H := HA.out
      clear HA
      simp only [image_rising_int.l0] at H
      by_cases c2 : x3_1 < (l0.length : Int)
      · rw [if_pos c2] at H
        have c2b0 : decide (x3_1 < (l0.length : Int)) = true := decide_eq_true c2
        clear c2
        by_cases c3 : 0 ≤ x3_1
        · rw [if_pos c3] at H
          have c3b0 : decide (0 ≤ x3_1) = true := decide_eq_true c3
          clear c3
          obtain ⟨ji4, hji4⟩ : ∃ j_ : Int, (wrap64 (x3_1 - 1)) = j_ := ⟨_, rfl⟩
          replace H : (if 0 ≤ (ji4) then (if (ji4) < (l0.length : Int) then (if (rd l0 x3_1) ≤ (rd l0 (ji4)) then (some false) else (image_rising_int.l0 k1 l0 (wrap64 (x3_1 + 1)))) else (none)) else (none)) = some r := by first | (rw [hji4] at H; exact H) | (simp only [hji4] at H ⊢; exact H)
          have hji4w : (IntKind.i64.wrap (x3_1 - 1)) = ji4 := (i64_w _).trans hji4
          by_cases c5 : 0 ≤ (ji4)
          · rw [if_pos c5] at H
            have c5b0 : decide (0 ≤ (ji4)) = true := decide_eq_true c5
            clear c5
            by_cases c6 : (ji4) < (l0.length : Int)
            · rw [if_pos c6] at H
              have c6b0 : decide ((ji4) < (l0.length : Int)) = true := decide_eq_true c6
              clear c6
              by_cases c7 : (rd l0 x3_1) ≤ (rd l0 (ji4))
              · rw [if_pos c7] at H
                have c7b0 : decide ((rd l0 x3_1) ≤ (rd l0 (ji4))) = true := decide_eq_true c7
                clear c7
                obtain rfl := Option.some.inj H
                have p101 : 0 ≤ (x3_1 : Int) := of_decide_eq_true (by first | (with_reducible assumption) | assumption)
                have q101 : x3_1 < (l0.length : Int) := of_decide_eq_true (by first | (with_reducible assumption) | assumption)
                obtain ⟨ad101, e101, hx101_0⟩ := Kd.at_int HR0.out x3_1 p101 q101
                cases e101
                replace p101 := eq_true p101
                replace q101 := eq_true q101
                have p102 : 0 ≤ ((ji4) : Int) := of_decide_eq_true (by first | (with_reducible assumption) | assumption)
                have q102 : (ji4) < (l0.length : Int) := of_decide_eq_true (by first | (with_reducible assumption) | assumption)
                obtain ⟨ad102, e102, hx102_0⟩ := Kd.at_int HR0.out (ji4) p102 q102
                obtain rfl : ad101 = ad102 := (by injection e102)
                replace p102 := eq_true p102
                replace q102 := eq_true q102
                go_wp2
                repeat (go_quiet (fail); try go_wp2)
                go_ret
                exact ⟨by first | rfl | (simp; done) | (simp only [← hji4] <;> (first | rfl | simp)) | (simp [*]; done), by repeat (first | exact Drawn0.refl _ | apply Drawn0.step)⟩
              · rw [if_neg c7] at H
                have c7b0 : decide ((rd l0 x3_1) ≤ (rd l0 (ji4))) = false := decide_eq_false c7
                clear c7
                have H' := Aside0.mk H
                clear H
                have p101 : 0 ≤ (x3_1 : Int) := of_decide_eq_true (by first | (with_reducible assumption) | assumption)
                have q101 : x3_1 < (l0.length : Int) := of_decide_eq_true (by first | (with_reducible assumption) | assumption)
                obtain ⟨ad101, e101, hx101_0⟩ := Kd.at_int HR0.out x3_1 p101 q101
                cases e101
                replace p101 := eq_true p101
                replace q101 := eq_true q101
                have p102 : 0 ≤ ((ji4) : Int) := of_decide_eq_true (by first | (with_reducible assumption) | assumption)
                have q102 : (ji4) < (l0.length : Int) := of_decide_eq_true (by first | (with_reducible assumption) | assumption)
                obtain ⟨ad102, e102, hx102_0⟩ := Kd.at_int HR0.out (ji4) p102 q102
                obtain rfl : ad101 = ad102 := (by injection e102)
                replace p102 := eq_true p102
                replace q102 := eq_true q102
                go_wp2
                repeat (go_quiet (fail); try go_wp2)
                go_roundg k1
                case measure => have := HK1.out; omega
                case rel => exact ⟨(wrap64 (x3_1 + 1)), (by first | rfl | (simp; done) | (simp [*]; done)), H', ⟨by have := HK1.out; omega⟩, by repeat (first | exact Drawn0.refl _ | apply Drawn0.step)⟩
            · rw [if_neg c6] at H
              exact absurd H (by simp)
          · rw [if_neg c5] at H
            exact absurd H (by simp)
        · rw [if_neg c3] at H
          exact absurd H (by simp)
      · rw [if_neg c2] at H
        have c2b0 : decide (x3_1 < (l0.length : Int)) = false := decide_eq_false c2
        clear c2
        obtain rfl := Option.some.inj H
        go_wp2
        repeat (go_quiet (fail); try go_wp2)
        go_ret
        exact ⟨by first | rfl | (simp; done) | (simp [*]; done), by repeat (first | exact Drawn0.refl _ | apply Drawn0.step)⟩

end Go.Proofs.YtmfbdmjgkcijcaaDoor.M
namespace Go.Proofs.YtmfbdmjgkcijcaaDoor.M
open Go.RowKit Go.Proofs.YtmfbdmjgkcijcaaDoorW.PrintWords Go.Proofs.YtmfbdmjgkcijcaaDoorW.PrintLast Go.Proofs.YtmfbdmjgkcijcaaDoorW.PrintMore
attribute [local go_sem] max2_int min2_int max_two min_two max_three min_three max_four min_four   -- for this text's walks alone
set_option linter.unusedVariables false
set_option linter.unusedSimpArgs false

/-! ### image_within: function 68 -/
def image_within.f (a0 : Int) (a1 : Int) : Option (Bool) := if a0 ≥ 0 then (some (decide (a0 ≤ a1))) else (some false)
set_option maxHeartbeats 8000000 in
set_option maxRecDepth 100000 in
theorem image_within.calls (a0 : Int) (a1 : Int) (r : Bool) (w : World) (h : image_within.f a0 a1 = some r) :
    Calls Tryd.prog 68 #[.int .i64 a0, .int .i64 a1] w fun e w' => e = .returned (.bool r) ∧ Drawn0 w w' := by
  have H : (if a0 ≥ 0 then (some (decide (a0 ≤ a1))) else (some false)) = some r := h
  clear h
  by_cases c3 : a0 ≥ 0
  · rw [if_pos c3] at H
    have c3b0 : decide (0 ≤ a0) = true := decide_eq_true c3
    clear c3
    obtain rfl := Option.some.inj H
    go_enter Tryd.func68, Tryd.ntmps68
    go_wp2
    go_ret
    exact ⟨by first | rfl | (simp; done) | (simp [*]; done), by repeat (first | exact Drawn0.refl _ | apply Drawn0.step)⟩
  · rw [if_neg c3] at H
    have c3b0 : decide (0 ≤ a0) = false := decide_eq_false c3
    clear c3
    obtain rfl := Option.some.inj H
    go_enter Tryd.func68, Tryd.ntmps68
    go_wp2
    go_ret
    exact ⟨by first | rfl | (simp; done) | (simp [*]; done), by repeat (first | exact Drawn0.refl _ | apply Drawn0.step)⟩

end Go.Proofs.YtmfbdmjgkcijcaaDoor.M
