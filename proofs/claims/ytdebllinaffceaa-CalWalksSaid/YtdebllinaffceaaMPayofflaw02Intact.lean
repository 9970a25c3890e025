-- Laid by this session's own program (wip/mix/mix.py) around the kit's printer, over bodies that stand in for some functions; not a printed text.
import Derived.Test.YtdebllinaffceaaMx0
import Derived.WalkSpells
import Derived.Test.YtdebllinaffceaaMPayofflaw02SameInts
namespace Go.Proofs.Ytdebllinaffceaa.M
open Go.RowKit Go.Proofs.YtdebllinaffceaaW.PrintWords Go.Proofs.YtdebllinaffceaaW.PrintLast Go.Proofs.YtdebllinaffceaaW.PrintMore
attribute [local go_sem] max2_int min2_int max_two min_two max_three min_three max_four min_four   -- for this text's walks alone
set_option linter.unusedVariables false
set_option linter.unusedSimpArgs false

/-! ### payofflaw02_intact: function 12 -/
def payofflaw02_intact.f (k : Nat) (l0 : List Int) (l1 : List Int) : Option (Bool) := (payofflaw02_sameInts.f k l0 l1).bind fun t101 => (some t101)
theorem payofflaw02_intact.mono : ∀ a0 a1 k, LeO (payofflaw02_intact.f k a0 a1) (payofflaw02_intact.f (k + 1) a0 a1) := by
  intro a0 a1 k
  unfold payofflaw02_intact.f
  repeat' first
      | (with_reducible exact payofflaw02_sameInts.mono _ _ _)
      | (with_reducible exact LeO.refl _)
      | (with_reducible exact LeO.none _)
      | (with_reducible refine LeO.ite ?_ ?_)
      | (with_reducible refine LeO.bind ?_ (fun _ => ?_))
      | exact payofflaw02_sameInts.mono _ _ _
      | exact LeO.none _
      | refine LeO.ite ?_ ?_
      | refine LeO.bind ?_ (fun _ => ?_)
theorem cut_up {P : Program} (t e : TypeId) (kh : IntKind) {i : TypeInfo} (ht : P.underlying t = some (.slice e)) (hi : P.info? e = some i) (A : Option Addr) (n c : Nat) (j : Int) (h0 : 0 ≤ j) (hm : j ≤ c) :
    ∀ W : World, (Instr.slice t (.slice A n c) none (some (.int kh j)) none).run P W = .ok (.slice A j.toNat c) W := by
  intro W
  have hel : P.elem t = e := by simp [Program.elem, ht]
  have hu : P.underlying t = some (.slice (P.elem t)) := by rw [hel]; exact ht
  have ha : (A.map fun x => x.add 0) = A := by cases A <;> simp [Addr.add]
  rw [run_slice_h W t A n c hu kh j h0 hm, hel]
  simp [sizeOf, typeInfo, hi, sliced, Result.andThen, ha]

set_option maxHeartbeats 8000000 in
set_option maxRecDepth 100000 in
theorem payofflaw02_intact.callsF (k : Nat) (A0 : Option Addr) (c0 : Nat) (l0 : List Int) (A1 : Option Addr) (c1 : Nat) (l1 : List Int) (r : Bool) (w : World) (hr0 : Kd.C (Kd.int .i64) w A0 l0.length l0) (hc0 : l0.length ≤ c0) (hr1 : Kd.C (Kd.int .i64) w A1 l1.length l1) (hc1 : l1.length ≤ c1) (h : payofflaw02_intact.f k l0 l1 = some r)
    (hF : r = true → A1 ≠ none → ∃ full, full.length ≤ c0 ∧ l0.length + 2 ≤ full.length ∧ rd full (l0.length : Int) = -771 ∧ rd full ((l0.length : Int) + 1) = -772 ∧ Kd.C (Kd.int .i64) w A0 full.length full) :
    Calls Try.prog 12 #[.slice A0 l0.length c0, .slice A1 l1.length c1] w fun e w' => e = .returned (.bool r) ∧ Drawn0 w w' := by
  have qnil : ∀ (w : World) (a : Option Addr) (n c n' c' : Nat), (binOp .eql 27 (.slice a n c) (.slice none n' c')).run Try.prog w = .ok (.bool a.isNone) w := fun w a n c n' c' => Lib.run_eql_slice_nil w _ _ a n c n' c' Try.underlying27
  obtain ⟨t101, hA3, H⟩ := Option.bind_eq_some_iff.mp h
  have A3 := Aside0.mk hA3
  obtain rfl := Option.some.inj H
  clear H h
  have HR0 := Aside0.mk hr0
  have HC0 := Aside0.mk hc0
  have HR1 := Aside0.mk hr1
  have HC1 := Aside0.mk hc1
  cases t101 with
  | false =>
    clear hF hr0 hc0 hr1 hc1 hA3
    go_enter Try.func12, Try.ntmps12
    go_wp2_with (((with_reducible refine gate_callee (f := 21) rfl ?_); refine goesL_ (some 9) rfl rfl Try.func21 (by kernel_rfl) rfl #[.slice A0 l0.length c0, .slice A1 l1.length c1] rfl (by (try simp only [List.map_toArray, List.map_cons, List.map_nil]); first | done | rfl | (simp only [List.length_drop, List.length_take]; rfl)) ?_; (with_reducible refine (payofflaw02_sameInts.calls k _ _ l0 _ _ l1 false _ ?side1 ?side2 ?side3 ?side4 A3.out).mono ?_); (case side1 => repeat (first | exact HR0.out | (with_reducible refine Kd.C_alloc ?_ _) | (with_reducible refine Kd.C_drewN ?_ _) | (with_reducible refine Kd.C_drew ?_))); (case side2 => exact HC0.out); (case side3 => repeat (first | exact HR1.out | (with_reducible refine Kd.C_alloc ?_ _) | (with_reducible refine Kd.C_drewN ?_ _) | (with_reducible refine Kd.C_drew ?_))); (case side4 => exact HC1.out); rintro e w' ⟨rfl, ⟨nd, rfl⟩⟩; refine ⟨_, rfl, ?_⟩))
    go_ret
    exact ⟨by first | rfl | (simp; done) | (simp [*]; done), by repeat (first | exact Drawn0.refl _ | apply Drawn0.step)⟩
  | true =>
    have hlen : (l0.length : Int) = (l1.length : Int) := by
      by_cases c : (l0.length : Int) = (l1.length : Int)
      · exact c
      · rw [payofflaw02_sameInts.f, if_neg c] at hA3; cases hA3
    cases A1 with
    | none =>
      clear hF hr0 hc0 hr1 hc1 hA3
      go_enter Try.func12, Try.ntmps12
      go_wp2_with (((with_reducible refine gate_callee (f := 21) rfl ?_); refine goesL_ (some 9) rfl rfl Try.func21 (by kernel_rfl) rfl #[.slice A0 l0.length c0, .slice none l1.length c1] rfl (by (try simp only [List.map_toArray, List.map_cons, List.map_nil]); first | done | rfl | (simp only [List.length_drop, List.length_take]; rfl)) ?_; (with_reducible refine (payofflaw02_sameInts.calls k _ _ l0 _ _ l1 true _ ?side1 ?side2 ?side3 ?side4 A3.out).mono ?_); (case side1 => repeat (first | exact HR0.out | (with_reducible refine Kd.C_alloc ?_ _) | (with_reducible refine Kd.C_drewN ?_ _) | (with_reducible refine Kd.C_drew ?_))); (case side2 => exact HC0.out); (case side3 => repeat (first | exact HR1.out | (with_reducible refine Kd.C_alloc ?_ _) | (with_reducible refine Kd.C_drewN ?_ _) | (with_reducible refine Kd.C_drew ?_))); (case side4 => exact HC1.out); rintro e w' ⟨rfl, ⟨nd, rfl⟩⟩; refine ⟨_, rfl, ?_⟩))
      go_ret
      exact ⟨by first | rfl | (simp; done) | (simp [*]; done), by repeat (first | exact Drawn0.refl _ | apply Drawn0.step)⟩
    | some ad1 =>
      obtain ⟨full, f1, f2, f3, f4, f5⟩ := hF rfl (by simp)
      have f6 := f5.2.1
      obtain ⟨j2, hj2⟩ : ∃ j : Int, wrap64 ((l1.length : Int) + 2) = j := ⟨_, rfl⟩
      have hj2w : IntKind.i64.wrap ((l1.length : Int) + 2) = j2 := (i64_w _).trans hj2
      obtain ⟨j3, hj3⟩ : ∃ j : Int, wrap64 ((l1.length : Int) + 1) = j := ⟨_, rfl⟩
      have hj3w : IntKind.i64.wrap ((l1.length : Int) + 1) = j3 := (i64_w _).trans hj3
      have e2 : j2 = (l1.length : Int) + 2 := by rw [← hj2]; unfold wrap64; omega
      have e3 : j3 = (l1.length : Int) + 1 := by rw [← hj3]; unfold wrap64; omega
      obtain ⟨N, hN⟩ : ∃ N : Nat, j2.toNat = N := ⟨_, rfl⟩
      have eN : N = l1.length + 2 := by omega
      obtain ⟨i0, hi0, _, hsz, _⟩ := info_parts info3
      have hcut := cut_up (P := Try.prog) 27 3 .i64 Try.underlying27 hi0 A0 l0.length c0 j2 (by omega) (by omega)
      rw [hN] at hcut
      obtain ⟨ad, ea, hx⟩ := Kd.at_int f5 (l1.length : Int) (by omega) (by omega)
      obtain ⟨ad', ea', hy⟩ := Kd.at_int f5 j3 (by omega) (by omega)
      subst ea
      cases ea'
      have g1 : rd full (l1.length : Int) = -771 := by rw [← hlen]; exact f3
      have g2 : rd full j3 = -772 := by rw [e3, ← hlen]; exact f4
      rw [g1] at hx
      rw [g2] at hy
      have p1 := eq_true (show (0 : Int) ≤ (l1.length : Int) by omega)
      have q1 := eq_true (show (l1.length : Int) < (N : Int) by omega)
      have q1n := eq_true (show l1.length < N by omega)
      have p2 := eq_true (show (0 : Int) ≤ j3 by omega)
      have q2 := eq_true (show j3 < (N : Int) by omega)
      have d1 : decide ((l1.length : Int) < (N : Int)) = true := decide_eq_true (by omega)
      have d2 : decide (j3 < (N : Int)) = true := decide_eq_true (by omega)
      have d3 : decide ((0 : Int) ≤ j3) = true := decide_eq_true (by omega)
      have hxn := hx
      simp only [Int.toNat_natCast] at hxn
      clear hr0 hc0 hr1 hc1 hA3 hj2 hj3 e2 e3 eN hN f1 f2 f3 f4 f5 f6 g1 g2 hlen hi0 hsz
      go_enter Try.func12, Try.ntmps12
      go_wp2_with (((with_reducible refine gate_callee (f := 21) rfl ?_); refine goesL_ (some 9) rfl rfl Try.func21 (by kernel_rfl) rfl #[.slice (some ad) l0.length c0, .slice (some ad1) l1.length c1] rfl (by (try simp only [List.map_toArray, List.map_cons, List.map_nil]); first | done | rfl | (simp only [List.length_drop, List.length_take]; rfl)) ?_; (with_reducible refine (payofflaw02_sameInts.calls k _ _ l0 _ _ l1 true _ ?side1 ?side2 ?side3 ?side4 A3.out).mono ?_); (case side1 => repeat (first | exact HR0.out | (with_reducible refine Kd.C_alloc ?_ _) | (with_reducible refine Kd.C_drewN ?_ _) | (with_reducible refine Kd.C_drew ?_))); (case side2 => exact HC0.out); (case side3 => repeat (first | exact HR1.out | (with_reducible refine Kd.C_alloc ?_ _) | (with_reducible refine Kd.C_drewN ?_ _) | (with_reducible refine Kd.C_drew ?_))); (case side4 => exact HC1.out); rintro e w' ⟨rfl, ⟨nd, rfl⟩⟩; refine ⟨_, rfl, ?_⟩))
      go_ret
      exact ⟨by first | rfl | (simp; done) | (simp [*]; done), by repeat (first | exact Drawn0.refl _ | apply Drawn0.step)⟩

end Go.Proofs.Ytdebllinaffceaa.M
