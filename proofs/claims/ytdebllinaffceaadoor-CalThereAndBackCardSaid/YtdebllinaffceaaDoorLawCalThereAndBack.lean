/- For any number: if it is a day of the calendar, Date tells a date of which Day tells the number again, whose text has ten bytes and is read back as that date, and which is the day behind the date of the number before it (same month, a month's first, a year's first); number 0 is 1900-01-01; any other number has no date. The argument reads as before. The package-level table cal.months is tied to the program's text. No other condition. -/
-- Laid by this session's own program (wip/mix/row.py): the row of the law CalThereAndBack, out of its plain statement and its walk.
import Derived.Test.YtdebllinaffceaaDoorRows
import Derived.Test.YtdebllinaffceaaDoorOpens
import Derived.Test.YtdebllinaffceaaDoorMPayofflaw02CalThereAndBack
import Derived.Test.YtdebllinaffceaaDoorPureCalThereAndBack
import Derived.Test.YtdebllinaffceaaDoorCards
import Derived.Test.YtdebllinaffceaaDoorTie
import Derived.SevenTiedAt
namespace Go.Proofs.YtdebllinaffceaaDoor.calThereAndBack
open Go.ChangeShapes Go.WideShapes Go.ChangeAt Go.RowKit
set_option linter.unusedVariables false
set_option maxRecDepth 100000 in
theorem lifted (os : Os) (started : os.Started) (H : Type) (enc : TypeId × Value → H) :
    ReturnsInHanded {} Tryd.checked os 10 .any (fun w args => (Rows.calThereAndBackSpec.pre enc Tryd.prog Tryd.f10 [] false w args ∧ laidMetH Tryd.prog Opens.laid1 w) ∧ sizedMet enc Tryd.prog Tryd.f10 (OpenSpec.ofChange Rows.calThereAndBackSpec) false w args) (Rows.calThereAndBackSpec.post enc Tryd.prog Tryd.f10 false true false false) := by
  refine returnsInHanded_of_change_and (C := Tryd.checked) (X := fun w _ => laidMetH Tryd.prog Opens.laid1 w) (fun _ _ _ hh h => h.of_heap hh) Opens.own started (by kernel_rfl) Tryd.func10
    (ChangeSpec.witness_shaped (enc := enc) (C := Tryd.checked) (os := os) (X := fun w _ => laidMetH Tryd.prog Opens.laid1 w) false (World.doorLaid Tryd.prog 14 os) #[.int .i64 0] 8 rfl (World.shaped_of_RefB (by kernel_rfl) (by kernel_rfl)) (by kernel_rfl) (by kernel_rfl) (by kernel_rfl) (Opens.door_met os _)) ?_
  intro W base args ds gs before hval0 hW hcnd hsz0 hL _
  have hval : ∀ (j : Nat) t v, Tryd.f10.params[j]? = some t → args[j]? = some v → Value.okWide Tryd.prog W .any base t v := hval0
  have hW' := hW
  obtain ⟨p, q, hA0, hV, rfl, hfz, hnd⟩ := hW
  have hA : DataW.TrodAll enc Tryd.prog W 0 (fun _ => true) true Tryd.f10.params.toList args.toList ds p := hA0
  rw [Tryd.params10] at hA hval
  obtain ⟨v0, vs0, d0, ds0, p0, q0, hargs, rfl, rfl, h0, r0⟩ := trodAll_cons hA
  obtain ⟨rfl, rfl, rfl⟩ := trodAll_nil r0
  obtain rfl : args = #[v0] := by cases args; simp_all
  obtain ⟨rfl, rfl⟩ := trodVars_none hV
  obtain ⟨a0, rfl, rfl, rfl, w0⟩ := open_int Tryd.underlying3 (hval 0 3 v0 rfl rfl) h0
  clear hA0 hval0 hsz0
  obtain ⟨k, hk⟩ := Pure.CalThereAndBack a0 w0
  refine (M.payofflaw02_CalThereAndBack.calls k a0 true W hk (Opens.tab_of_laid hL)).mono fun e W' ⟨he, bel0⟩ => ?_
  have bel : Below W.heap.size W W' := bel0
  subst he
  exact ⟨_, rfl, _, _, _, [], _, [], hW', trodAll_mk1 (shut_bool Tryd.underlying4 _), (trodAll_cons_mk (shut_int Tryd.underlying3 w0) trodAll_mk0), rfl, bel.frame _, fun h => by cases h⟩
theorem over : Rows.calThereAndBackRow.holds Tryd.pinned (OpenSpec.ofChange Rows.calThereAndBackSpec) :=
  OpenClaim.holds_of_wide 10 Tryd.f10 rfl rfl rfl rfl rfl rfl rfl ⟨rfl, rfl, rfl, rfl, rfl⟩ rfl rfl rfl rfl rfl (by kernel_rfl) Tryd.func10 (by kernel_rfl)
    (of_decide_eq_true (by kernel_rfl)) (by unfold Func.isWrapper; first | (rw [if_pos (by decide +kernel)]; kernel_rfl) | (rw [if_neg (by decide +kernel)]; exact ⟨rfl, rfl⟩))
    (fun os started H enc _ => lifted os started H enc)
theorem proved : Rows.CalThereAndBackCardSaid :=
  Claim7.holds_tied_plain_at .later [] [.data] true (true, "6a0e979754ae37cd667bf354d70a33ec4d06d744fc85dbad488365af7086f564") false
    over (fun _ h => by cases h) (by kernel_rfl) (fun _ h => by cases h) calThereAndBack_row_tie rfl ⟨rfl, rfl⟩ (by kernel_rfl) rfl
    (fun f fn hf hfn => by
      obtain rfl : f = 10 := Option.some.inj ((show Tryd.prog.funcNamed "payoff/payofflaw02.CalThereAndBack" = some 10 by kernel_rfl).symm.trans hf) |>.symm
      obtain rfl : fn = Tryd.f10 := (Option.some.inj (Tryd.func10.symm.trans hfn)).symm
      exact ⟨by kernel_rfl, fun j t ht => by
          rw [Tryd.params10] at ht
          rcases j with _ | j
          · obtain rfl : 3 = t := by simpa using ht
            exact (show Tryd.prog.wantsStandIn 3 = false by kernel_rfl)
          · simp at ht⟩)
    (by kernel_rfl)
end Go.Proofs.YtdebllinaffceaaDoor.calThereAndBack
namespace Go.Proofs.YtdebllinaffceaaDoor
/-- The statement, under a short name, for the claim. -/
theorem calThereAndBack_holds : Rows.CalThereAndBackCardSaid := calThereAndBack.proved
#print axioms calThereAndBack_holds
end Go.Proofs.YtdebllinaffceaaDoor
