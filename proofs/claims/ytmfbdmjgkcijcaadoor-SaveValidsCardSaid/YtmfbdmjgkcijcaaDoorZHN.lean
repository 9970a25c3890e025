/- image.lists. -/
import Derived.Test.YtmfbdmjgkcijcaaDoorZV
import Derived.Test.YtmfbdmjgkcijcaaDoorZHJ
namespace Go.Proofs.YtmfbdmjgkcijcaaDoor.H
open Go.RowKit Go.Proofs.YtmfbdmjgkcijcaaDoorW.PrintWords Go.Proofs.YtmfbdmjgkcijcaaDoorW.PrintLast Go.Proofs.YtmfbdmjgkcijcaaDoorW.PrintMore
open Go.ChangeMaps (setBlock)
attribute [local go_sem] max2_int min2_int max_two min_two max_three min_three max_four min_four
set_option linter.unusedVariables false
set_option linter.unusedSimpArgs false
open Go.Proofs.YtmfbdmjgkcijcaaDoor.M
def withinB (n most : Int) : Bool := decide (0 ≤ n) && decide (n ≤ most)
def listsB (names curs : List ByteArray) (pool : List Int) (hor cel slo sta : Int) : Bool := (!decide ((64 : Int) < (names.length : Int))) && (!decide ((4096 : Int) < (curs.length : Int))) && (!decide ((16384 : Int) < (pool.length : Int))) && risingS names && risingS curs && risingI pool && (!names.any (fun s => !namedB s)) && (!curs.any (fun s => !curB s)) && withinB hor 3660 && withinB cel 32768 && withinB slo 16384 && withinB sta 16384
set_option maxHeartbeats 4000000 in
set_option maxRecDepth 100000 in
theorem within_calls (n most : Int) (b : Bool) (hb : withinB n most = b) (w : World) : Calls Tryd.prog 68 #[.int .i64 n, .int .i64 most] w fun e w' => e = .returned (.bool b) ∧ Drawn0 w w' := by
  subst hb
  by_cases h : 0 ≤ n <;> by_cases h2 : n ≤ most
  all_goals (
    have e : withinB n most = withinB n most := rfl
    go_enter Tryd.func68, Tryd.ntmps68
    go_wp2
    go_ret
    exact ⟨by simp [withinB, h, h2], DQ⟩)
set_option maxHeartbeats 4000000 in
set_option maxRecDepth 100000 in
theorem lists_calls (A0 : Option Addr) (c0 : Nat) (names : List ByteArray) (A1 : Option Addr) (c1 : Nat) (curs : List ByteArray) (A2 : Option Addr) (c2 : Nat) (pool : List Int) (hor cel slo sta : Int) (v7 : Value) (w : World) (hr0 : Kd.C Kd.string w A0 names.length names) (hc0 : names.length ≤ c0) (hr1 : Kd.C Kd.string w A1 curs.length curs) (hc1 : curs.length ≤ c1) (hr2 : Kd.C (Kd.int .i64) w A2 pool.length pool) (hc2 : pool.length ≤ c2) (hl : pool.length ≤ 100000000000000) :
    Calls Tryd.prog 43 #[.agg #[.slice A0 names.length c0, .slice A1 curs.length c1, .slice A2 pool.length c2, .int .i64 hor, .int .i64 cel, .int .i64 slo, .int .i64 sta, v7]] w fun e w' => e = .returned (.bool (listsB names curs pool hor cel slo sta)) ∧ Fr w w' [] := by
  have HX := Aside0.mk (show ∀ w', Fr w w' [] → Below w.heap.size w w' from fun _ h => h.below)
  obtain ⟨bn1, hn1⟩ : ∃ b, decide ((64 : Int) < (names.length : Int)) = b := ⟨_, rfl⟩
  obtain ⟨bn2, hn2⟩ : ∃ b, decide ((4096 : Int) < (curs.length : Int)) = b := ⟨_, rfl⟩
  obtain ⟨bn3, hn3⟩ : ∃ b, decide ((16384 : Int) < (pool.length : Int)) = b := ⟨_, rfl⟩
  obtain ⟨br1, hR1⟩ : ∃ b, risingS names = b := ⟨_, rfl⟩
  obtain ⟨br2, hR2⟩ : ∃ b, risingS curs = b := ⟨_, rfl⟩
  obtain ⟨br3, hR3⟩ : ∃ b, risingI pool = b := ⟨_, rfl⟩
  obtain ⟨bq1, hq1⟩ : ∃ b, names.any (fun s => !namedB s) = b := ⟨_, rfl⟩
  obtain ⟨bq2, hq2⟩ : ∃ b, curs.any (fun s => !curB s) = b := ⟨_, rfl⟩
  obtain ⟨bw1, hw1⟩ : ∃ b, withinB hor 3660 = b := ⟨_, rfl⟩
  obtain ⟨bw2, hw2⟩ : ∃ b, withinB cel 32768 = b := ⟨_, rfl⟩
  obtain ⟨bw3, hw3⟩ : ∃ b, withinB slo 16384 = b := ⟨_, rfl⟩
  obtain ⟨bw4, hw4⟩ : ∃ b, withinB sta 16384 = b := ⟨_, rfl⟩
  have HLB : Aside0 (listsB names curs pool hor cel slo sta = ((!bn1) && (!bn2) && (!bn3) && br1 && br2 && br3 && (!bq1) && (!bq2) && bw1 && bw2 && bw3 && bw4)) := ⟨by unfold listsB; rw [hn1, hn2, hn3, hR1, hR2, hR3, hq1, hq2, hw1, hw2, hw3, hw4]⟩
  have R1 : Aside0 (∀ W, Fr w W [] → Calls Tryd.prog 61 #[.slice A0 names.length c0] W fun e w' => e = .returned (.bool br1) ∧ Drawn0 W w') := ⟨fun W h => hR1 ▸ risingS_calls A0 c0 names W (Kd.C_below hr0 h.below) hc0⟩
  have R2 : Aside0 (∀ W, Fr w W [] → Calls Tryd.prog 61 #[.slice A1 curs.length c1] W fun e w' => e = .returned (.bool br2) ∧ Drawn0 W w') := ⟨fun W h => hR2 ▸ risingS_calls A1 c1 curs W (Kd.C_below hr1 h.below) hc1⟩
  obtain ⟨kk, hkk⟩ := risingI_f pool hl
  have R3 : Aside0 (∀ W, Fr w W [] → Calls Tryd.prog 62 #[.slice A2 pool.length c2] W fun e w' => e = .returned (.bool br3) ∧ Drawn0 W w') := ⟨fun W h => hR3 ▸ image_rising_int.calls kk A2 c2 pool _ W (Kd.C_below hr2 h.below) hc2 hkk⟩
  have Q1 : Aside0 (∀ W, Fr w W [] → Calls Tryd.prog 63 #[.slice A0 names.length c0, .func (Fn.func 64) #[] #[]] W fun e w' => e = .returned (.bool bq1) ∧ Drawn0 W w') := ⟨fun W h => containsS1_calls A0 c0 names W (Kd.C_below hr0 h.below) hc0 bq1 hq1⟩
  have Q2 : Aside0 (∀ W, Fr w W [] → Calls Tryd.prog 63 #[.slice A1 curs.length c1, .func (Fn.func 66) #[] #[]] W fun e w' => e = .returned (.bool bq2) ∧ Drawn0 W w') := ⟨fun W h => containsS2_calls A1 c1 curs W (Kd.C_below hr1 h.below) hc1 bq2 hq2⟩
  have W1 := Aside0.mk (within_calls _ _ bw1 hw1)
  have W2 := Aside0.mk (within_calls _ _ bw2 hw2)
  have W3 := Aside0.mk (within_calls _ _ bw3 hw3)
  have W4 := Aside0.mk (within_calls _ _ bw4 hw4)
  rw [HLB.out]
  clear HLB hr0 hr1 hr2 hR1 hR2 hR3 hq1 hq2 hw1 hw2 hw3 hw4 hkk
  cases bn1
  case true =>
    go_enter Tryd.func43, Tryd.ntmps43
    go_wp2_with (first | (go_at_call 61; (with_reducible refine (R1.out _ ?_).mono ?_); (next => exact FQ); rintro e w' ⟨rfl, ⟨ndR1, rfl⟩⟩) | (go_at_call 61; (with_reducible refine (R2.out _ ?_).mono ?_); (next => exact FQ); rintro e w' ⟨rfl, ⟨ndR2, rfl⟩⟩) | (go_at_call 62; (with_reducible refine (R3.out _ ?_).mono ?_); (next => exact FQ); rintro e w' ⟨rfl, ⟨ndR3, rfl⟩⟩) | (go_at_call 63; (with_reducible refine (Q1.out _ ?_).mono ?_); (next => exact FQ); rintro e w' ⟨rfl, ⟨ndQ1, rfl⟩⟩) | (go_at_call 63; (with_reducible refine (Q2.out _ ?_).mono ?_); (next => exact FQ); rintro e w' ⟨rfl, ⟨ndQ2, rfl⟩⟩) | (go_at_call 68; (with_reducible refine (W1.out _).mono ?_); rintro e w' ⟨rfl, ⟨nW1, rfl⟩⟩) | (go_at_call 68; (with_reducible refine (W2.out _).mono ?_); rintro e w' ⟨rfl, ⟨nW2, rfl⟩⟩) | (go_at_call 68; (with_reducible refine (W3.out _).mono ?_); rintro e w' ⟨rfl, ⟨nW3, rfl⟩⟩) | (go_at_call 68; (with_reducible refine (W4.out _).mono ?_); rintro e w' ⟨rfl, ⟨nW4, rfl⟩⟩))
    go_ret
    exact ⟨by first | rfl | (simp; done), FQ⟩
  cases bn2
  case true =>
    go_enter Tryd.func43, Tryd.ntmps43
    go_wp2_with (first | (go_at_call 61; (with_reducible refine (R1.out _ ?_).mono ?_); (next => exact FQ); rintro e w' ⟨rfl, ⟨ndR1, rfl⟩⟩) | (go_at_call 61; (with_reducible refine (R2.out _ ?_).mono ?_); (next => exact FQ); rintro e w' ⟨rfl, ⟨ndR2, rfl⟩⟩) | (go_at_call 62; (with_reducible refine (R3.out _ ?_).mono ?_); (next => exact FQ); rintro e w' ⟨rfl, ⟨ndR3, rfl⟩⟩) | (go_at_call 63; (with_reducible refine (Q1.out _ ?_).mono ?_); (next => exact FQ); rintro e w' ⟨rfl, ⟨ndQ1, rfl⟩⟩) | (go_at_call 63; (with_reducible refine (Q2.out _ ?_).mono ?_); (next => exact FQ); rintro e w' ⟨rfl, ⟨ndQ2, rfl⟩⟩) | (go_at_call 68; (with_reducible refine (W1.out _).mono ?_); rintro e w' ⟨rfl, ⟨nW1, rfl⟩⟩) | (go_at_call 68; (with_reducible refine (W2.out _).mono ?_); rintro e w' ⟨rfl, ⟨nW2, rfl⟩⟩) | (go_at_call 68; (with_reducible refine (W3.out _).mono ?_); rintro e w' ⟨rfl, ⟨nW3, rfl⟩⟩) | (go_at_call 68; (with_reducible refine (W4.out _).mono ?_); rintro e w' ⟨rfl, ⟨nW4, rfl⟩⟩))
    go_ret
    exact ⟨by first | rfl | (simp; done), FQ⟩
  cases bn3
  case true =>
    go_enter Tryd.func43, Tryd.ntmps43
    go_wp2_with (first | (go_at_call 61; (with_reducible refine (R1.out _ ?_).mono ?_); (next => exact FQ); rintro e w' ⟨rfl, ⟨ndR1, rfl⟩⟩) | (go_at_call 61; (with_reducible refine (R2.out _ ?_).mono ?_); (next => exact FQ); rintro e w' ⟨rfl, ⟨ndR2, rfl⟩⟩) | (go_at_call 62; (with_reducible refine (R3.out _ ?_).mono ?_); (next => exact FQ); rintro e w' ⟨rfl, ⟨ndR3, rfl⟩⟩) | (go_at_call 63; (with_reducible refine (Q1.out _ ?_).mono ?_); (next => exact FQ); rintro e w' ⟨rfl, ⟨ndQ1, rfl⟩⟩) | (go_at_call 63; (with_reducible refine (Q2.out _ ?_).mono ?_); (next => exact FQ); rintro e w' ⟨rfl, ⟨ndQ2, rfl⟩⟩) | (go_at_call 68; (with_reducible refine (W1.out _).mono ?_); rintro e w' ⟨rfl, ⟨nW1, rfl⟩⟩) | (go_at_call 68; (with_reducible refine (W2.out _).mono ?_); rintro e w' ⟨rfl, ⟨nW2, rfl⟩⟩) | (go_at_call 68; (with_reducible refine (W3.out _).mono ?_); rintro e w' ⟨rfl, ⟨nW3, rfl⟩⟩) | (go_at_call 68; (with_reducible refine (W4.out _).mono ?_); rintro e w' ⟨rfl, ⟨nW4, rfl⟩⟩))
    go_ret
    exact ⟨by first | rfl | (simp; done), FQ⟩
  cases br1
  case false =>
    go_enter Tryd.func43, Tryd.ntmps43
    go_wp2_with (first | (go_at_call 61; (with_reducible refine (R1.out _ ?_).mono ?_); (next => exact FQ); rintro e w' ⟨rfl, ⟨ndR1, rfl⟩⟩) | (go_at_call 61; (with_reducible refine (R2.out _ ?_).mono ?_); (next => exact FQ); rintro e w' ⟨rfl, ⟨ndR2, rfl⟩⟩) | (go_at_call 62; (with_reducible refine (R3.out _ ?_).mono ?_); (next => exact FQ); rintro e w' ⟨rfl, ⟨ndR3, rfl⟩⟩) | (go_at_call 63; (with_reducible refine (Q1.out _ ?_).mono ?_); (next => exact FQ); rintro e w' ⟨rfl, ⟨ndQ1, rfl⟩⟩) | (go_at_call 63; (with_reducible refine (Q2.out _ ?_).mono ?_); (next => exact FQ); rintro e w' ⟨rfl, ⟨ndQ2, rfl⟩⟩) | (go_at_call 68; (with_reducible refine (W1.out _).mono ?_); rintro e w' ⟨rfl, ⟨nW1, rfl⟩⟩) | (go_at_call 68; (with_reducible refine (W2.out _).mono ?_); rintro e w' ⟨rfl, ⟨nW2, rfl⟩⟩) | (go_at_call 68; (with_reducible refine (W3.out _).mono ?_); rintro e w' ⟨rfl, ⟨nW3, rfl⟩⟩) | (go_at_call 68; (with_reducible refine (W4.out _).mono ?_); rintro e w' ⟨rfl, ⟨nW4, rfl⟩⟩))
    go_ret
    exact ⟨by first | rfl | (simp; done), FQ⟩
  cases br2
  case false =>
    go_enter Tryd.func43, Tryd.ntmps43
    go_wp2_with (first | (go_at_call 61; (with_reducible refine (R1.out _ ?_).mono ?_); (next => exact FQ); rintro e w' ⟨rfl, ⟨ndR1, rfl⟩⟩) | (go_at_call 61; (with_reducible refine (R2.out _ ?_).mono ?_); (next => exact FQ); rintro e w' ⟨rfl, ⟨ndR2, rfl⟩⟩) | (go_at_call 62; (with_reducible refine (R3.out _ ?_).mono ?_); (next => exact FQ); rintro e w' ⟨rfl, ⟨ndR3, rfl⟩⟩) | (go_at_call 63; (with_reducible refine (Q1.out _ ?_).mono ?_); (next => exact FQ); rintro e w' ⟨rfl, ⟨ndQ1, rfl⟩⟩) | (go_at_call 63; (with_reducible refine (Q2.out _ ?_).mono ?_); (next => exact FQ); rintro e w' ⟨rfl, ⟨ndQ2, rfl⟩⟩) | (go_at_call 68; (with_reducible refine (W1.out _).mono ?_); rintro e w' ⟨rfl, ⟨nW1, rfl⟩⟩) | (go_at_call 68; (with_reducible refine (W2.out _).mono ?_); rintro e w' ⟨rfl, ⟨nW2, rfl⟩⟩) | (go_at_call 68; (with_reducible refine (W3.out _).mono ?_); rintro e w' ⟨rfl, ⟨nW3, rfl⟩⟩) | (go_at_call 68; (with_reducible refine (W4.out _).mono ?_); rintro e w' ⟨rfl, ⟨nW4, rfl⟩⟩))
    go_ret
    exact ⟨by first | rfl | (simp; done), FQ⟩
  cases br3
  case false =>
    go_enter Tryd.func43, Tryd.ntmps43
    go_wp2_with (first | (go_at_call 61; (with_reducible refine (R1.out _ ?_).mono ?_); (next => exact FQ); rintro e w' ⟨rfl, ⟨ndR1, rfl⟩⟩) | (go_at_call 61; (with_reducible refine (R2.out _ ?_).mono ?_); (next => exact FQ); rintro e w' ⟨rfl, ⟨ndR2, rfl⟩⟩) | (go_at_call 62; (with_reducible refine (R3.out _ ?_).mono ?_); (next => exact FQ); rintro e w' ⟨rfl, ⟨ndR3, rfl⟩⟩) | (go_at_call 63; (with_reducible refine (Q1.out _ ?_).mono ?_); (next => exact FQ); rintro e w' ⟨rfl, ⟨ndQ1, rfl⟩⟩) | (go_at_call 63; (with_reducible refine (Q2.out _ ?_).mono ?_); (next => exact FQ); rintro e w' ⟨rfl, ⟨ndQ2, rfl⟩⟩) | (go_at_call 68; (with_reducible refine (W1.out _).mono ?_); rintro e w' ⟨rfl, ⟨nW1, rfl⟩⟩) | (go_at_call 68; (with_reducible refine (W2.out _).mono ?_); rintro e w' ⟨rfl, ⟨nW2, rfl⟩⟩) | (go_at_call 68; (with_reducible refine (W3.out _).mono ?_); rintro e w' ⟨rfl, ⟨nW3, rfl⟩⟩) | (go_at_call 68; (with_reducible refine (W4.out _).mono ?_); rintro e w' ⟨rfl, ⟨nW4, rfl⟩⟩))
    go_ret
    exact ⟨by first | rfl | (simp; done), FQ⟩
  cases bq1
  case true =>
    go_enter Tryd.func43, Tryd.ntmps43
    go_wp2_with (first | (go_at_call 61; (with_reducible refine (R1.out _ ?_).mono ?_); (next => exact FQ); rintro e w' ⟨rfl, ⟨ndR1, rfl⟩⟩) | (go_at_call 61; (with_reducible refine (R2.out _ ?_).mono ?_); (next => exact FQ); rintro e w' ⟨rfl, ⟨ndR2, rfl⟩⟩) | (go_at_call 62; (with_reducible refine (R3.out _ ?_).mono ?_); (next => exact FQ); rintro e w' ⟨rfl, ⟨ndR3, rfl⟩⟩) | (go_at_call 63; (with_reducible refine (Q1.out _ ?_).mono ?_); (next => exact FQ); rintro e w' ⟨rfl, ⟨ndQ1, rfl⟩⟩) | (go_at_call 63; (with_reducible refine (Q2.out _ ?_).mono ?_); (next => exact FQ); rintro e w' ⟨rfl, ⟨ndQ2, rfl⟩⟩) | (go_at_call 68; (with_reducible refine (W1.out _).mono ?_); rintro e w' ⟨rfl, ⟨nW1, rfl⟩⟩) | (go_at_call 68; (with_reducible refine (W2.out _).mono ?_); rintro e w' ⟨rfl, ⟨nW2, rfl⟩⟩) | (go_at_call 68; (with_reducible refine (W3.out _).mono ?_); rintro e w' ⟨rfl, ⟨nW3, rfl⟩⟩) | (go_at_call 68; (with_reducible refine (W4.out _).mono ?_); rintro e w' ⟨rfl, ⟨nW4, rfl⟩⟩))
    go_ret
    exact ⟨by first | rfl | (simp; done), FQ⟩
  cases bq2
  case true =>
    go_enter Tryd.func43, Tryd.ntmps43
    go_wp2_with (first | (go_at_call 61; (with_reducible refine (R1.out _ ?_).mono ?_); (next => exact FQ); rintro e w' ⟨rfl, ⟨ndR1, rfl⟩⟩) | (go_at_call 61; (with_reducible refine (R2.out _ ?_).mono ?_); (next => exact FQ); rintro e w' ⟨rfl, ⟨ndR2, rfl⟩⟩) | (go_at_call 62; (with_reducible refine (R3.out _ ?_).mono ?_); (next => exact FQ); rintro e w' ⟨rfl, ⟨ndR3, rfl⟩⟩) | (go_at_call 63; (with_reducible refine (Q1.out _ ?_).mono ?_); (next => exact FQ); rintro e w' ⟨rfl, ⟨ndQ1, rfl⟩⟩) | (go_at_call 63; (with_reducible refine (Q2.out _ ?_).mono ?_); (next => exact FQ); rintro e w' ⟨rfl, ⟨ndQ2, rfl⟩⟩) | (go_at_call 68; (with_reducible refine (W1.out _).mono ?_); rintro e w' ⟨rfl, ⟨nW1, rfl⟩⟩) | (go_at_call 68; (with_reducible refine (W2.out _).mono ?_); rintro e w' ⟨rfl, ⟨nW2, rfl⟩⟩) | (go_at_call 68; (with_reducible refine (W3.out _).mono ?_); rintro e w' ⟨rfl, ⟨nW3, rfl⟩⟩) | (go_at_call 68; (with_reducible refine (W4.out _).mono ?_); rintro e w' ⟨rfl, ⟨nW4, rfl⟩⟩))
    go_ret
    exact ⟨by first | rfl | (simp; done), FQ⟩
  cases bw1
  case false =>
    go_enter Tryd.func43, Tryd.ntmps43
    go_wp2_with (first | (go_at_call 61; (with_reducible refine (R1.out _ ?_).mono ?_); (next => exact FQ); rintro e w' ⟨rfl, ⟨ndR1, rfl⟩⟩) | (go_at_call 61; (with_reducible refine (R2.out _ ?_).mono ?_); (next => exact FQ); rintro e w' ⟨rfl, ⟨ndR2, rfl⟩⟩) | (go_at_call 62; (with_reducible refine (R3.out _ ?_).mono ?_); (next => exact FQ); rintro e w' ⟨rfl, ⟨ndR3, rfl⟩⟩) | (go_at_call 63; (with_reducible refine (Q1.out _ ?_).mono ?_); (next => exact FQ); rintro e w' ⟨rfl, ⟨ndQ1, rfl⟩⟩) | (go_at_call 63; (with_reducible refine (Q2.out _ ?_).mono ?_); (next => exact FQ); rintro e w' ⟨rfl, ⟨ndQ2, rfl⟩⟩) | (go_at_call 68; (with_reducible refine (W1.out _).mono ?_); rintro e w' ⟨rfl, ⟨nW1, rfl⟩⟩) | (go_at_call 68; (with_reducible refine (W2.out _).mono ?_); rintro e w' ⟨rfl, ⟨nW2, rfl⟩⟩) | (go_at_call 68; (with_reducible refine (W3.out _).mono ?_); rintro e w' ⟨rfl, ⟨nW3, rfl⟩⟩) | (go_at_call 68; (with_reducible refine (W4.out _).mono ?_); rintro e w' ⟨rfl, ⟨nW4, rfl⟩⟩))
    go_ret
    exact ⟨by first | rfl | (simp; done), FQ⟩
  cases bw2
  case false =>
    go_enter Tryd.func43, Tryd.ntmps43
    go_wp2_with (first | (go_at_call 61; (with_reducible refine (R1.out _ ?_).mono ?_); (next => exact FQ); rintro e w' ⟨rfl, ⟨ndR1, rfl⟩⟩) | (go_at_call 61; (with_reducible refine (R2.out _ ?_).mono ?_); (next => exact FQ); rintro e w' ⟨rfl, ⟨ndR2, rfl⟩⟩) | (go_at_call 62; (with_reducible refine (R3.out _ ?_).mono ?_); (next => exact FQ); rintro e w' ⟨rfl, ⟨ndR3, rfl⟩⟩) | (go_at_call 63; (with_reducible refine (Q1.out _ ?_).mono ?_); (next => exact FQ); rintro e w' ⟨rfl, ⟨ndQ1, rfl⟩⟩) | (go_at_call 63; (with_reducible refine (Q2.out _ ?_).mono ?_); (next => exact FQ); rintro e w' ⟨rfl, ⟨ndQ2, rfl⟩⟩) | (go_at_call 68; (with_reducible refine (W1.out _).mono ?_); rintro e w' ⟨rfl, ⟨nW1, rfl⟩⟩) | (go_at_call 68; (with_reducible refine (W2.out _).mono ?_); rintro e w' ⟨rfl, ⟨nW2, rfl⟩⟩) | (go_at_call 68; (with_reducible refine (W3.out _).mono ?_); rintro e w' ⟨rfl, ⟨nW3, rfl⟩⟩) | (go_at_call 68; (with_reducible refine (W4.out _).mono ?_); rintro e w' ⟨rfl, ⟨nW4, rfl⟩⟩))
    go_ret
    exact ⟨by first | rfl | (simp; done), FQ⟩
  cases bw3
  case false =>
    go_enter Tryd.func43, Tryd.ntmps43
    go_wp2_with (first | (go_at_call 61; (with_reducible refine (R1.out _ ?_).mono ?_); (next => exact FQ); rintro e w' ⟨rfl, ⟨ndR1, rfl⟩⟩) | (go_at_call 61; (with_reducible refine (R2.out _ ?_).mono ?_); (next => exact FQ); rintro e w' ⟨rfl, ⟨ndR2, rfl⟩⟩) | (go_at_call 62; (with_reducible refine (R3.out _ ?_).mono ?_); (next => exact FQ); rintro e w' ⟨rfl, ⟨ndR3, rfl⟩⟩) | (go_at_call 63; (with_reducible refine (Q1.out _ ?_).mono ?_); (next => exact FQ); rintro e w' ⟨rfl, ⟨ndQ1, rfl⟩⟩) | (go_at_call 63; (with_reducible refine (Q2.out _ ?_).mono ?_); (next => exact FQ); rintro e w' ⟨rfl, ⟨ndQ2, rfl⟩⟩) | (go_at_call 68; (with_reducible refine (W1.out _).mono ?_); rintro e w' ⟨rfl, ⟨nW1, rfl⟩⟩) | (go_at_call 68; (with_reducible refine (W2.out _).mono ?_); rintro e w' ⟨rfl, ⟨nW2, rfl⟩⟩) | (go_at_call 68; (with_reducible refine (W3.out _).mono ?_); rintro e w' ⟨rfl, ⟨nW3, rfl⟩⟩) | (go_at_call 68; (with_reducible refine (W4.out _).mono ?_); rintro e w' ⟨rfl, ⟨nW4, rfl⟩⟩))
    go_ret
    exact ⟨by first | rfl | (simp; done), FQ⟩
  cases bw4
  case false =>
    go_enter Tryd.func43, Tryd.ntmps43
    go_wp2_with (first | (go_at_call 61; (with_reducible refine (R1.out _ ?_).mono ?_); (next => exact FQ); rintro e w' ⟨rfl, ⟨ndR1, rfl⟩⟩) | (go_at_call 61; (with_reducible refine (R2.out _ ?_).mono ?_); (next => exact FQ); rintro e w' ⟨rfl, ⟨ndR2, rfl⟩⟩) | (go_at_call 62; (with_reducible refine (R3.out _ ?_).mono ?_); (next => exact FQ); rintro e w' ⟨rfl, ⟨ndR3, rfl⟩⟩) | (go_at_call 63; (with_reducible refine (Q1.out _ ?_).mono ?_); (next => exact FQ); rintro e w' ⟨rfl, ⟨ndQ1, rfl⟩⟩) | (go_at_call 63; (with_reducible refine (Q2.out _ ?_).mono ?_); (next => exact FQ); rintro e w' ⟨rfl, ⟨ndQ2, rfl⟩⟩) | (go_at_call 68; (with_reducible refine (W1.out _).mono ?_); rintro e w' ⟨rfl, ⟨nW1, rfl⟩⟩) | (go_at_call 68; (with_reducible refine (W2.out _).mono ?_); rintro e w' ⟨rfl, ⟨nW2, rfl⟩⟩) | (go_at_call 68; (with_reducible refine (W3.out _).mono ?_); rintro e w' ⟨rfl, ⟨nW3, rfl⟩⟩) | (go_at_call 68; (with_reducible refine (W4.out _).mono ?_); rintro e w' ⟨rfl, ⟨nW4, rfl⟩⟩))
    go_ret
    exact ⟨by first | rfl | (simp; done), FQ⟩
  go_enter Tryd.func43, Tryd.ntmps43
  go_wp2_with (first | (go_at_call 61; (with_reducible refine (R1.out _ ?_).mono ?_); (next => exact FQ); rintro e w' ⟨rfl, ⟨ndR1, rfl⟩⟩) | (go_at_call 61; (with_reducible refine (R2.out _ ?_).mono ?_); (next => exact FQ); rintro e w' ⟨rfl, ⟨ndR2, rfl⟩⟩) | (go_at_call 62; (with_reducible refine (R3.out _ ?_).mono ?_); (next => exact FQ); rintro e w' ⟨rfl, ⟨ndR3, rfl⟩⟩) | (go_at_call 63; (with_reducible refine (Q1.out _ ?_).mono ?_); (next => exact FQ); rintro e w' ⟨rfl, ⟨ndQ1, rfl⟩⟩) | (go_at_call 63; (with_reducible refine (Q2.out _ ?_).mono ?_); (next => exact FQ); rintro e w' ⟨rfl, ⟨ndQ2, rfl⟩⟩) | (go_at_call 68; (with_reducible refine (W1.out _).mono ?_); rintro e w' ⟨rfl, ⟨nW1, rfl⟩⟩) | (go_at_call 68; (with_reducible refine (W2.out _).mono ?_); rintro e w' ⟨rfl, ⟨nW2, rfl⟩⟩) | (go_at_call 68; (with_reducible refine (W3.out _).mono ?_); rintro e w' ⟨rfl, ⟨nW3, rfl⟩⟩) | (go_at_call 68; (with_reducible refine (W4.out _).mono ?_); rintro e w' ⟨rfl, ⟨nW4, rfl⟩⟩))
  go_ret
  exact ⟨by first | rfl | (simp; done), FQ⟩
end Go.Proofs.YtmfbdmjgkcijcaaDoor.H
