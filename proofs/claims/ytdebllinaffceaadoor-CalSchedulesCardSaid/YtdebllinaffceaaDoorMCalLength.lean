import Derived.Test.YtdebllinaffceaaDoorVWords
import Derived.Test.YtdebllinaffceaaDoorMx0
import Derived.Test.YtdebllinaffceaaDoorMCalLeap
namespace Go.Proofs.YtdebllinaffceaaDoor.M
open Go.RowKit Go.Proofs.YtdebllinaffceaaDoorW.PrintWords Go.Proofs.YtdebllinaffceaaDoorW.PrintLast Go.Proofs.YtdebllinaffceaaDoorW.PrintMore
attribute [local go_sem] max2_int min2_int max_two min_two max_three min_three max_four min_four   -- for this text's walks alone
set_option linter.unusedVariables false
set_option linter.unusedSimpArgs false

/-! ### cal_length: function 47 -/
/-- The table of the months' lengths, as the program's text lays it. -/
def monthTab : List Int := [31, 28, 31, 30, 31, 30, 31, 31, 30, 31, 30, 31]
/-- The package-level table lies in memory (block 0). -/
structure TabW (w : World) : Prop where
  mk :: (out : ∀ i : Nat, i < 12 → w.cell? ⟨0, i, none⟩ = some (.int .i64 (rd monthTab (i : Int))))
theorem TabW.below {w w' : World} (h : TabW w) (hb : Below w.heap.size w w') : TabW w' := by
  refine ⟨fun i hi => ?_⟩
  have hc := h.out i hi
  have hlt : 0 < w.heap.size := by
    rcases Nat.lt_or_ge 0 w.heap.size with h1 | h1
    · exact h1
    · exfalso
      have : w.heap[0]? = none := Array.getElem?_eq_none h1
      simp [World.cell?, this] at hc
  rw [hb.cell (p := ⟨0, i, none⟩) hlt]; exact hc
theorem TabW.drewN {w : World} (h : TabW w) (n : Nat) : TabW (w.drewN n) := ⟨h.out⟩
theorem TabW.drew {w : World} (h : TabW w) : TabW w.drew := ⟨h.out⟩
theorem TQ {W : World} (h : TabW W := by first | exact TabW.below (Aside0.out (by assumption)) BQ | (repeat (first | exact Aside0.out (by assumption) | refine TabW.drewN ?_ _ | refine TabW.drew ?_))) : TabW W := h
def cal_length.f (a0 : Int) (a1 : Int) : Option (Int) :=
  if a1 = 2 then ((cal_leap.f a0).bind fun t => if t = true then some 29 else some 28) else if 1 ≤ a1 then (if a1 ≤ 12 then some (rd monthTab (a1 - 1)) else none) else none
set_option maxHeartbeats 8000000 in
set_option maxRecDepth 100000 in
theorem cal_length.calls (a0 : Int) (a1 : Int) (r : Int) (w : World) (h : cal_length.f a0 a1 = some r) (G0 : TabW w) :
    Calls Tryd.prog 47 #[.int .i64 a0, .int .i64 a1] w fun e w' => e = .returned (.int .i64 r) ∧ Drawn0 w w' := by
  unfold cal_length.f at h
  have GT := Aside0.mk G0
  clear G0
  by_cases c : a1 = 2
  · subst c
    rw [if_pos rfl] at h
    replace h := Option.bind_eq_some_iff.mp h
    obtain ⟨t, A0, h⟩ := h
    have A1 := Aside0.mk A0
    clear A0
    have g1 : w.cell? ⟨0, 1, none⟩ = some (.int .i64 28) := GT.out.out 1 (by omega)
    cases t with
    | true =>
      rw [if_pos rfl] at h
      obtain rfl := Option.some.inj h
      clear h
      go_enter Tryd.func47, Tryd.ntmps47
      go_wp2_with (first | (go_at_call 61; (with_reducible refine (cal_leap.calls a0 true _ A1.out).mono ?_); rintro e w' ⟨rfl, ⟨nd, rfl⟩⟩))
      go_ret
      exact ⟨by first | rfl | (simp; done) | (simp [*]; done), by repeat (first | exact Drawn0.refl _ | apply Drawn0.step)⟩
    | false =>
      rw [if_neg (by decide)] at h
      obtain rfl := Option.some.inj h
      clear h
      go_enter Tryd.func47, Tryd.ntmps47
      go_wp2_with (first | (go_at_call 61; (with_reducible refine (cal_leap.calls a0 false _ A1.out).mono ?_); rintro e w' ⟨rfl, ⟨nd, rfl⟩⟩))
      go_ret
      exact ⟨by first | rfl | (simp; done) | (simp [*]; done), by repeat (first | exact Drawn0.refl _ | apply Drawn0.step)⟩
  · rw [if_neg c] at h
    by_cases c1 : 1 ≤ a1
    · rw [if_pos c1] at h
      by_cases c2 : a1 ≤ 12
      · rw [if_pos c2] at h
        obtain rfl := Option.some.inj h
        clear h
        obtain ⟨i, rfl⟩ : ∃ i : Nat, a1 = (i : Int) + 1 := ⟨(a1 - 1).toNat, by omega⟩
        have hi : i < 12 := by omega
        have e1 : ((i : Int) + 1 - 1) = (i : Int) := by omega
        rw [e1]
        have g1 := GT.out.out i hi
        have hne : (((i : Int) + 1) == 2) = false := beq_eq_false_iff_ne.mpr c
        have hne2 : (((i : Int)) == 1) = false := beq_eq_false_iff_ne.mpr (by omega)
        have b0 : (0 : Int) ≤ (i : Int) := by omega
        have b1 : (i : Int) < 12 := by omega
        clear c c1 c2 e1
        generalize hr : rd monthTab (i : Int) = r at g1 ⊢
        clear hr
        go_enter Tryd.func47, Tryd.ntmps47
        go_wp2
        go_ret
        exact ⟨by first | rfl | (simp; done) | (simp [*]; done), by repeat (first | exact Drawn0.refl _ | apply Drawn0.step)⟩
      · rw [if_neg c2] at h; cases h
    · rw [if_neg c1] at h; cases h

end Go.Proofs.YtdebllinaffceaaDoor.M
