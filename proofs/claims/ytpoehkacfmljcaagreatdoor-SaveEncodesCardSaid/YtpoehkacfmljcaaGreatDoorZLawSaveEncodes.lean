/- For any program and any state: the given function save.Encode, asked twice of copies, gives the bytes and the errno that the document's Encode gives of the program and the state themselves, both times; the state that it was handed stays as it was; and the bytes that the second call gave stay as they are when the first call's are written over and appended to. Both arguments read as before. The package-level tables code.kinds, verify.number, verify.truth and payoffref11.table are tied to the program's text. The arguments take at most the memory that the row's sized condition names. No other condition. -/
import Derived.Test.YtpoehkacfmljcaaGreatDoorZV
import Derived.Test.YtpoehkacfmljcaaGreatDoorRows
import Derived.Test.YtpoehkacfmljcaaGreatDoorZUT
import Derived.Test.YtpoehkacfmljcaaGreatDoorZUC
import Derived.Test.YtpoehkacfmljcaaGreatDoorCards
import Derived.Test.YtpoehkacfmljcaaGreatDoorTie
import Derived.SevenTiedAt
namespace Go.Proofs.YtpoehkacfmljcaaGreatDoor.saveEncodes
open Go.ChangeShapes Go.WideShapes Go.ChangeAt Go.RowKit
set_option linter.unusedVariables false
set_option maxRecDepth 100000 in
theorem lifted (os : Os) (started : os.Started) (H : Type) (enc : TypeId × Value → H) :
    ReturnsInHanded {} Tryz.checked os 3 .any (fun w args => (Rows.saveEncodesSpec.pre enc Tryz.prog Tryz.f3 [] false w args ∧ laidMetH Tryz.prog Opens.laidAll w) ∧ sizedMet enc Tryz.prog Tryz.f3 (OpenSpec.ofChange Rows.saveEncodesSpec) false w args) (Rows.saveEncodesSpec.post enc Tryz.prog Tryz.f3 false true false false) := by
  refine returnsInHanded_of_change_and (C := Tryz.checked) (X := fun w _ => laidMetH Tryz.prog Opens.laidAll w) (fun _ _ _ hh h => h.of_heap hh) Opens.own started (by kernel_rfl) Tryz.func3
    (ChangeSpec.witness_shaped (enc := enc) (C := Tryz.checked) (os := os) (X := fun w _ => laidMetH Tryz.prog Opens.laidAll w) false (World.doorLaid Tryz.prog 200 os) #[.agg #[.slice none 0 0, .slice none 0 0, .slice none 0 0, .int .i64 0, .int .i64 0, .int .i64 0, .int .i64 0, .slice none 0 0], .agg #[.int .i64 0, .int .i64 0, .slice none 0 0, .slice none 0 0, .int .i64 0, .int .i64 0]] 8 rfl (World.shaped_of_RefB (by kernel_rfl) (by kernel_rfl)) (by kernel_rfl) (by kernel_rfl) (by kernel_rfl) (Opens.door_met os _)) ?_
  intro W base args ds gs before hval0 hW hcnd hsz0 hL _
  have hsz : (DataW.weightsEach Tryz.prog (Tryz.f3.params.toList ++ Rows.saveEncodesSpec.plain.varTypes Tryz.prog) (ds ++ gs)).all (· ≤ reachBytes) = true := hsz0
  have hval : ∀ (j : Nat) t v, Tryz.f3.params[j]? = some t → args[j]? = some v → Value.okWide Tryz.prog W .any base t v := hval0
  have hW' := hW
  obtain ⟨p, q, hA0, hV, rfl, hfz, hnd⟩ := hW
  have hA : DataW.TrodAll enc Tryz.prog W 0 (fun _ => true) true Tryz.f3.params.toList args.toList ds p := hA0
  rw [Tryz.params3] at hA hval hsz
  obtain ⟨v0, vs0, d0, ds0, p0, q0, hargs, rfl, rfl, h0, r0⟩ := trodAll_cons hA
  obtain ⟨v1, vs1, d1, ds1, p1, q1, rfl, rfl, rfl, h1, r1⟩ := trodAll_cons r0
  obtain ⟨rfl, rfl, rfl⟩ := trodAll_nil r1
  obtain rfl : args = #[v0, v1] := by cases args; simp_all
  obtain ⟨rfl, rfl⟩ := trodVars_none hV
  have k0 := h0
  have lt0 : ∀ x ∈ p0, x.block < W.heap.size := by obtain ⟨m, hm⟩ := k0; exact DataW.trod_lt m _ _ _ hm
  have k1 := h1
  have lt1 : ∀ x ∈ p1, x.block < W.heap.size := by obtain ⟨m, hm⟩ := k1; exact DataW.trod_lt m _ _ _ hm
  have w0 : Opens.Wt 26 d0 := fun n hn => of_decide_eq_true (List.all_eq_true.1 hsz _ (DataW.weights_mem_each (j := 0) (t := 26) rfl rfl n hn))
  have w1 : Opens.Wt 30 d1 := fun n hn => of_decide_eq_true (List.all_eq_true.1 hsz _ (DataW.weights_mem_each (j := 1) (t := 30) rfl rfl n hn))
  obtain ⟨A0, c0, names, A1, c1, curs, A2, c2, pool, hor, cel, slo, sta, A7, c7, days, rfl, ⟨g0, C0⟩, ⟨g1, C1⟩, ⟨g2, C2⟩, ⟨g7, C7⟩, hz0⟩ := Opens.open_program (hval 0 26 v0 rfl rfl) h0
  obtain ⟨a0, a1, B2, e2, l2, B3, e3, l3, a4, a5, rfl, ⟨g8, C8⟩, ⟨g9, C9⟩, hz1⟩ := Opens.open_state (hval 1 30 v1 rfl rfl) h1
  obtain ⟨z0, z1, z2, z3, z4, z5, zp⟩ := hz0 w0
  obtain ⟨z6, z7, z8, zs, zl⟩ := hz1 w1
  clear hA0 hval0 hsz0 hsz hz0 hz1
  unfold reachBytes at z0 z1 z2 z3 z4 z5 z6 z7 z8
  refine (Go.Proofs.YtpoehkacfmljcaaGreatDoor.H.saveEncodes_calls A0 c0 names A1 c1 curs A2 c2 pool hor cel slo sta A7 c7 days a0 a1 B2 e2 l2 B3 e3 l3 a4 a5 W ⟨⟨g0, C0⟩, ⟨g1, C1⟩, ⟨g2, C2⟩, g7, C7⟩ ⟨⟨g8, C8⟩, g9, C9⟩ (by omega) (by omega) (by omega) (by omega) (fun s hs => by have := z4 s hs; omega) (by omega) (by omega) (fun s hs => by have := (z8 s hs).1; omega) (fun s hs => by have := z5 s hs; omega) zp zs zl (fun r hr => (z8 r hr).2) (Opens.tab_of_laid hL)).mono fun e W' ⟨he, bel⟩ => ?_
  subst he
  exact ⟨_, rfl, _, _, _, [], _, [], hW', trodAll_mk1 (shut_bool Tryz.underlying4 _), (trodAll_cons_mk (Below.trod Opens.laidOut (by kernel_rfl) (of_decide_eq_true (by kernel_rfl)) k0 bel lt0) (trodAll_cons_mk (Below.trod Opens.laidOut (by kernel_rfl) (of_decide_eq_true (by kernel_rfl)) k1 bel lt1) trodAll_mk0)), rfl, bel.frame _, fun h => by cases h⟩
theorem over : Rows.saveEncodesRow.holds Tryz.pinned (OpenSpec.ofChange Rows.saveEncodesSpec) :=
  OpenClaim.holds_of_wide 3 Tryz.f3 rfl rfl rfl rfl rfl rfl rfl ⟨rfl, rfl, rfl, rfl, rfl⟩ rfl rfl rfl rfl rfl (by kernel_rfl) Tryz.func3 (by kernel_rfl)
    (of_decide_eq_true (by kernel_rfl)) (by unfold Func.isWrapper; first | (rw [if_pos (by decide +kernel)]; kernel_rfl) | (rw [if_neg (by decide +kernel)]; exact ⟨rfl, rfl⟩))
    (fun os started H enc _ => lifted os started H enc)
theorem proved : Rows.SaveEncodesCardSaid :=
  Claim7.holds_tied_plain_at .later [] [.data, .data, .data, .data] true (true, "efd5e7caafab99d83feae906c7688122fe7f343d643b1635d6ff82d2fbc2cfac") false
    over (fun _ h => by cases h) (by kernel_rfl) (fun _ h => by cases h) saveEncodes_row_tie rfl ⟨rfl, rfl⟩ (by kernel_rfl) rfl
    (fun f fn hf hfn => by
      obtain rfl : f = 3 := Option.some.inj ((show Tryz.prog.funcNamed "payoff/payofflaw16.SaveEncodes" = some 3 by kernel_rfl).symm.trans hf) |>.symm
      obtain rfl : fn = Tryz.f3 := (Option.some.inj (Tryz.func3.symm.trans hfn)).symm
      exact ⟨by kernel_rfl, fun j t ht => by
          rw [Tryz.params3] at ht
          rcases j with _ | j
          · obtain rfl : 26 = t := by simpa using ht
            exact (show Tryz.prog.wantsStandIn 26 = false by kernel_rfl)
          rcases j with _ | j
          · obtain rfl : 30 = t := by simpa using ht
            exact (show Tryz.prog.wantsStandIn 30 = false by kernel_rfl)
          · simp at ht⟩)
    (by kernel_rfl)
end Go.Proofs.YtpoehkacfmljcaaGreatDoor.saveEncodes
namespace Go.Proofs.YtpoehkacfmljcaaGreatDoor
theorem saveEncodes_holds : Rows.SaveEncodesCardSaid := saveEncodes.proved
#print axioms saveEncodes_holds
end Go.Proofs.YtpoehkacfmljcaaGreatDoor
