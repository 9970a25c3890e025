/- Verify. -/
import Derived.Test.YtmfbdmjgkcijcaaDoorZV
import Derived.Test.YtmfbdmjgkcijcaaDoorZHF
namespace Go.Proofs.YtmfbdmjgkcijcaaDoor.H
open Go.RowKit Go.Proofs.YtmfbdmjgkcijcaaDoorW.PrintWords Go.Proofs.YtmfbdmjgkcijcaaDoorW.PrintLast Go.Proofs.YtmfbdmjgkcijcaaDoorW.PrintMore
open Go.ChangeMaps (setBlock)
attribute [local go_sem] max2_int min2_int max_two min_two max_three min_three max_four min_four
set_option linter.unusedVariables false
set_option linter.unusedSimpArgs false
open Go.Proofs.YtmfbdmjgkcijcaaDoor.M
/-- What Verify hands out beside the error and its places. -/
def proofP (r : (Int × Nat × Nat) × Acc) : Value := if r.1.1 ≠ 0 then .agg #[.int .i64 0, .int .i64 0, .int .i64 0] else .agg #[.int .i64 r.2.stack, .int .i64 r.2.fuel, .int .i64 r.2.back]
def VerifyPost (r : (Int × Nat × Nat) × Acc) (w : World) (e : Ending) (w' : World) : Prop :=
  ∃ d k, e = .returned (.tuple #[proofP r, .int .i64 d, .int .i64 k, .int .i64 r.1.1]) ∧ Fr w w' []
theorem verify_err {r : (Int × Nat × Nat) × Acc} {w W : World} {d k err : Int} (h : r.1.1 = err) (hf : Fr w W []) (hz : err ≠ 0) : VerifyPost r w (.returned (.tuple #[.agg #[.int .i64 0, .int .i64 0, .int .i64 0], .int .i64 d, .int .i64 k, .int .i64 err])) W := by
  subst h
  exact ⟨d, k, by unfold proofP; rw [if_pos hz], hf⟩
theorem verify_ok {r : (Int × Nat × Nat) × Acc} {w W : World} {d k : Int} (h : r.1.1 = 0) (hf : Fr w W []) : VerifyPost r w (.returned (.tuple #[.agg #[.int .i64 r.2.stack, .int .i64 r.2.fuel, .int .i64 r.2.back], .int .i64 d, .int .i64 k, .int .i64 0])) W := by
  exact ⟨d, k, by unfold proofP; rw [if_neg (fun hh => hh h), h], hf⟩
set_option maxHeartbeats 4000000 in
set_option maxRecDepth 100000 in
theorem verify_calls (A0 : Option Addr) (c0 : Nat) (names : List ByteArray) (A1 : Option Addr) (c1 : Nat) (curs : List ByteArray) (A2 : Option Addr) (c2 : Nat) (pool : List Int) (hor cel slo sta : Int) (A7 : Option Addr) (c7 : Nat) (days : List S41) (w : World) (hr0 : Kd.C Kd.string w A0 names.length names) (hc0 : names.length ≤ c0) (hr1 : Kd.C Kd.string w A1 curs.length curs) (hc1 : curs.length ≤ c1) (hr2 : Kd.C (Kd.int .i64) w A2 pool.length pool) (hc2 : pool.length ≤ c2) (hr7 : Kd.C k41 w A7 days.length days) (hc7 : days.length ≤ c7) (hpl : pool.length ≤ 100000000000000) (hdl : ∀ s ∈ days, s.f1.length ≤ 10000000000000) (G : TabW w) :
    Calls Tryd.prog 16 #[.agg #[.slice A0 names.length c0, .slice A1 curs.length c1, .slice A2 pool.length c2, .int .i64 hor, .int .i64 cel, .int .i64 slo, .int .i64 sta, .slice A7 days.length c7]] w (VerifyPost (verifyP names curs pool hor cel slo sta days) w) := by
  obtain ⟨R, hR⟩ : ∃ x, verifyP names curs pool hor cel slo sta days = x := ⟨_, rfl⟩
  rw [hR]
  have CC : Aside0 (∀ W, Fr w W [] → Calls Tryd.prog 28 #[.agg #[.slice A0 names.length c0, .slice A1 curs.length c1, .slice A2 pool.length c2, .int .i64 hor, .int .i64 cel, .int .i64 slo, .int .i64 sta, .slice A7 days.length c7]] W (VerPost R W)) := ⟨fun W h => hR ▸ verified_calls A0 c0 names A1 c1 curs A2 c2 pool hor cel slo sta A7 c7 days W (Kd.C_below hr0 h.below) hc0 (Kd.C_below hr1 h.below) hc1 (Kd.C_below hr2 h.below) hc2 (Kd.C_below hr7 h.below) hc7 hpl hdl (G.fr0 h)⟩
  clear hr0 hr1 hr2 hr7 G hdl hR
  have hup := Tryd.underlying26
  have huq := Tryd.underlying49
  obtain ⟨⟨err, dd, kk⟩, acc⟩ := R
  by_cases hz : err = 0
  case neg =>
    have hz1 : (err == 0) = false := by simpa using hz
    have hz2 : (err != 0) = true := by simpa using hz
    have HZ := Aside0.mk hz
    clear hz
    go_enter Tryd.func16, Tryd.ntmps16
    go_wp2_with (first | (go_at_call 28; (with_reducible refine (CC.out _ ?_).mono ?_); (next => exact FQ); rintro e W1 ⟨pv, rfl, hF1, hok⟩; have HB1 := Aside0.mk (hF1.blk (g := w.heap.size + 1) (blk_newN (by simp)) (by simp)); have HF1 : Aside0 (Fr w W1 []) := ⟨Fr.trans (M := []) FQ hF1 (by simp)⟩; have HOK := Aside0.mk hok; have hbl := blk_lt HB1.out; have v0 := blk_cell HB1.out 0; have v1 := blk_cell HB1.out 1; have v2 := blk_cell HB1.out 2; have z0 := blk_frozen HB1.out 0; have z1 := blk_frozen HB1.out 1; have z2 := blk_frozen HB1.out 2; clear hF1 hok))
    refine bodyPost_ret (results_list (rs := [.cell 2 49, .tmp 3, .tmp 4, .tmp 5]) rfl (by simp) (.cell (w.heap.size + 1) 49 #[.int .i64 0, .int .i64 0, .int .i64 0] (0, 0) _ rfl ?hb huq rfl rfl (.tmp (.tmp (.tmp .nil))))) rfl ?_
    case hb => exact blk_to (blk_set (blk_set (blk_set HB1.out 0 _) 1 _) 2 _) rfl
    exact verify_err rfl (by (with_reducible (repeat (first | exact Fr.refl _ _ | refine Fr.drew ?_ | refine Fr.drewN ?_ _ | refine Fr.alloc ?_ _ | refine Fr.setCell ?_ _ _ ?_))) <;> first | exact HF1.out | simp) HZ.out
  case pos =>
    subst hz
    go_enter Tryd.func16, Tryd.ntmps16
    go_upto_region 4 with (first | (go_at_call 28; (with_reducible refine (CC.out _ ?_).mono ?_); (next => exact FQ); rintro e W1 ⟨pv, rfl, hF1, hok⟩; have HB1 := Aside0.mk (hF1.blk (g := w.heap.size + 1) (blk_newN (by simp)) (by simp)); have HF1 : Aside0 (Fr w W1 []) := ⟨Fr.trans (M := []) FQ hF1 (by simp)⟩; have HOK := Aside0.mk hok; have hbl := blk_lt HB1.out; have v0 := blk_cell HB1.out 0; have v1 := blk_cell HB1.out 1; have v2 := blk_cell HB1.out 2; have z0 := blk_frozen HB1.out 0; have z1 := blk_frozen HB1.out 1; have z2 := blk_frozen HB1.out 2; clear hF1 hok))
    obtain ⟨fb, hv, rfl, hfb⟩ := HOK.out trivial
    clear HOK
    have g0 : W1.cell? ⟨fb, 0, none⟩ = some (.int .i64 acc.stack) := blk_cell hfb 0
    have g1 : W1.cell? ⟨fb, 1, none⟩ = some (.int .i64 acc.fuel) := blk_cell hfb 1
    have g2 : W1.cell? ⟨fb, 2, none⟩ = some (.int .i64 acc.back) := blk_cell hfb 2
    clear hfb
    go_wp2
    refine bodyPost_ret (results_list (rs := [.cell 2 49, .tmp 3, .tmp 4, .tmp 5]) rfl (by simp) (.cell (w.heap.size + 1) 49 #[.int .i64 acc.stack, .int .i64 acc.fuel, .int .i64 acc.back] (0, 0) _ rfl ?hb huq rfl rfl (.tmp (.tmp (.tmp .nil))))) rfl ?_
    case hb => exact blk_to (blk_set (blk_set (blk_set HB1.out 0 _) 1 _) 2 _) rfl
    exact verify_ok rfl (by (with_reducible (repeat (first | exact Fr.refl _ _ | refine Fr.drew ?_ | refine Fr.drewN ?_ _ | refine Fr.alloc ?_ _ | refine Fr.setCell ?_ _ _ ?_))) <;> first | exact HF1.out | simp)
end Go.Proofs.YtmfbdmjgkcijcaaDoor.H
