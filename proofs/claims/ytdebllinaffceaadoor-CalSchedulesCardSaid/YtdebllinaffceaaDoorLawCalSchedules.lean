/- For any two dates, any tenor, any convention and any list of holidays: the given function Schedule tells what the document's tells, again and again; answers kept as they came share no memory, answers written over and appended to stay as they were left, and the list of holidays is as it was, also behind its end, and counts as it is at the call. The list reads as before. The package-level table cal.months is tied to the program's text. The list takes at most the memory that the row's sized condition names. No other condition. -/
-- Laid by this session's own program (wip/mix/row.py): the row of the law CalSchedules, out of its plain statement and its walk.
import Derived.Test.YtdebllinaffceaaDoorVWords
import Derived.Test.YtdebllinaffceaaDoorRows
import Derived.Test.YtdebllinaffceaaDoorOpensPlan
import Derived.Test.YtdebllinaffceaaDoorMPayofflaw02CalSchedules
import Derived.Test.YtdebllinaffceaaDoorPureCalSchedules
import Derived.Test.YtdebllinaffceaaDoorCards
import Derived.Test.YtdebllinaffceaaDoorTie
import Derived.SevenTiedAt
namespace Go.Proofs.YtdebllinaffceaaDoor.calSchedules
open Go.ChangeShapes Go.WideShapes Go.ChangeAt Go.RowKit
set_option linter.unusedVariables false
set_option maxRecDepth 100000 in
theorem lifted (os : Os) (started : os.Started) (H : Type) (enc : TypeId × Value → H) :
    ReturnsInHanded {} Tryd.checked os 13 .any (fun w args => (Rows.calSchedulesSpec.pre enc Tryd.prog Tryd.f13 [] false w args ∧ laidMetH Tryd.prog Opens.laid1 w) ∧ sizedMet enc Tryd.prog Tryd.f13 (OpenSpec.ofChange Rows.calSchedulesSpec) false w args) (Rows.calSchedulesSpec.post enc Tryd.prog Tryd.f13 false true false false) := by
  refine returnsInHanded_of_change_and (C := Tryd.checked) (X := fun w _ => laidMetH Tryd.prog Opens.laid1 w) (fun _ _ _ hh h => h.of_heap hh) Opens.own started (by kernel_rfl) Tryd.func13
    (ChangeSpec.witness_shaped (enc := enc) (C := Tryd.checked) (os := os) (X := fun w _ => laidMetH Tryd.prog Opens.laid1 w) false (World.doorLaid Tryd.prog 14 os) #[.agg #[.int .i64 0, .int .i64 0, .int .i64 0, .int .i64 0, .int .i64 0, .int .i64 0, .int .i64 0, .int .i64 0, .int .i64 0, .slice none 0 0]] 8 rfl (World.shaped_of_RefB (by kernel_rfl) (by kernel_rfl)) (by kernel_rfl) (by kernel_rfl) (by kernel_rfl) (Opens.door_met os _)) ?_
  intro W base args ds gs before hval0 hW hcnd hsz0 hL _
  have hsz : (DataW.weightsEach Tryd.prog (Tryd.f13.params.toList ++ Rows.calSchedulesSpec.plain.varTypes Tryd.prog) (ds ++ gs)).all (· ≤ reachBytes) = true := hsz0
  have hval : ∀ (j : Nat) t v, Tryd.f13.params[j]? = some t → args[j]? = some v → Value.okWide Tryd.prog W .any base t v := hval0
  have hW' := hW
  obtain ⟨p, q, hA0, hV, rfl, hfz, hnd⟩ := hW
  have hA : DataW.TrodAll enc Tryd.prog W 0 (fun _ => true) true Tryd.f13.params.toList args.toList ds p := hA0
  rw [Tryd.params13] at hA hval hsz
  obtain ⟨v0, vs0, d0, ds0, p0, q0, hargs, rfl, rfl, h0, r0⟩ := trodAll_cons hA
  obtain ⟨rfl, rfl, rfl⟩ := trodAll_nil r0
  obtain rfl : args = #[v0] := by cases args; simp_all
  obtain ⟨rfl, rfl⟩ := trodVars_none hV
  have k0 := h0
  have lt0 : ∀ x ∈ p0, x.block < W.heap.size := by obtain ⟨m, hm⟩ := k0; exact DataW.trod_lt m _ _ _ hm
  obtain ⟨a0_0, a0_1, a0_2, a0_3, a0_4, a0_5, a0_6, a0_7, a0_8, A0, cap0, l0, rfl, hc0, hr0, hz0⟩ := Opens.open_plan (hval 0 53 v0 rfl rfl) h0
  have y0 := hz0 _ _ 0 hsz rfl rfl
  clear hA0 hval0 hsz0 hsz
  obtain ⟨k, hk⟩ := Pure.CalSchedules a0_0 a0_1 a0_2 a0_3 a0_4 a0_5 a0_6 a0_7 a0_8 l0 (by omega)
  refine (M.payofflaw02_CalSchedules.calls k a0_0 a0_1 a0_2 a0_3 a0_4 a0_5 a0_6 a0_7 a0_8 A0 cap0 l0 true W hr0 hc0 hk (Opens.tab_of_laid hL)).mono fun e W' ⟨he, bel0⟩ => ?_
  have bel : Below W.heap.size W W' := bel0
  subst he
  exact ⟨_, rfl, _, _, _, [], _, [], hW', trodAll_mk1 (shut_bool Tryd.underlying4 _), (trodAll_cons_mk (Below.trod Opens.laidOut (by kernel_rfl) (of_decide_eq_true (by kernel_rfl)) k0 bel lt0) trodAll_mk0), rfl, bel.frame _, fun h => by cases h⟩
theorem over : Rows.calSchedulesRow.holds Tryd.pinned (OpenSpec.ofChange Rows.calSchedulesSpec) :=
  OpenClaim.holds_of_wide 13 Tryd.f13 rfl rfl rfl rfl rfl rfl rfl ⟨rfl, rfl, rfl, rfl, rfl⟩ rfl rfl rfl rfl rfl (by kernel_rfl) Tryd.func13 (by kernel_rfl)
    (of_decide_eq_true (by kernel_rfl)) (by unfold Func.isWrapper; first | (rw [if_pos (by decide +kernel)]; kernel_rfl) | (rw [if_neg (by decide +kernel)]; exact ⟨rfl, rfl⟩))
    (fun os started H enc _ => lifted os started H enc)
theorem proved : Rows.CalSchedulesCardSaid :=
  Claim7.holds_tied_plain_at .later [] [.data] true (true, "6a0e979754ae37cd667bf354d70a33ec4d06d744fc85dbad488365af7086f564") false
    over (fun _ h => by cases h) (by kernel_rfl) (fun _ h => by cases h) calSchedules_row_tie rfl ⟨rfl, rfl⟩ (by kernel_rfl) rfl
    (fun f fn hf hfn => by
      obtain rfl : f = 13 := Option.some.inj ((show Tryd.prog.funcNamed "payoff/payofflaw02.CalSchedules" = some 13 by kernel_rfl).symm.trans hf) |>.symm
      obtain rfl : fn = Tryd.f13 := (Option.some.inj (Tryd.func13.symm.trans hfn)).symm
      exact ⟨by kernel_rfl, fun j t ht => by
          rw [Tryd.params13] at ht
          rcases j with _ | j
          · obtain rfl : 53 = t := by simpa using ht
            exact (show Tryd.prog.wantsStandIn 53 = false by kernel_rfl)
          · simp at ht⟩)
    (by kernel_rfl)
end Go.Proofs.YtdebllinaffceaaDoor.calSchedules
namespace Go.Proofs.YtdebllinaffceaaDoor
/-- The statement, under a short name, for the claim. -/
theorem calSchedules_holds : Rows.CalSchedulesCardSaid := calSchedules.proved
#print axioms calSchedules_holds
end Go.Proofs.YtdebllinaffceaaDoor
