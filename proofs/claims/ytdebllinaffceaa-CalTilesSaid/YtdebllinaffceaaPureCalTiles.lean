/- For any three numbers and any list of holidays: Between(0, 7, nil) is no nil iterator; where a ≤ b ≤ c the business days that Between gives from a to b and from b to c are those from a to c, each is a business day of its span, and each business day of the calendar from a up to c is there. The list reads as before. The list takes at most the memory that the row's sized condition names. No other condition. -/
import Derived.Test.YtdebllinaffceaaHandTiles
import Derived.Test.YtdebllinaffceaaPlainT
namespace Go.Proofs.Ytdebllinaffceaa.Plain
open Go.RowKit Go.Proofs.Ytdebllinaffceaa.M Go.Proofs.YtdebllinaffceaaW.PrintWords Go.Proofs.YtdebllinaffceaaW.PrintLast Go.Proofs.YtdebllinaffceaaW.PrintMore
attribute [local go_sem] Oper.semAt_some
set_option linter.unusedVariables false
set_option linter.unusedSimpArgs false
set_option maxHeartbeats 4000000 in
set_option maxRecDepth 100000 in
theorem tiles_bad (a b c : Int) (A : Option Addr) (c3 : Nat) (l : List Int) (w : World) (h : b < a ∨ c < b) :
    Calls Try.prog 5 #[.int .i64 a, .int .i64 b, .int .i64 c, .slice A l.length c3] w fun e w' => e = .returned (.bool true) ∧ Below w.heap.size w w' := by
  refine (callsIn_wide (n := 6)).1 ?_
  refine callsIn_of_wp_marks Try.func5 rfl trivial ?_ rfl
  simp only [Try.ntmps5, List.size_toArray, List.length_cons, List.length_nil, Nat.reduceAdd, Nat.reduceSub, Array.replicate_succ, Array.replicate_zero, List.push_toArray, List.append_toArray, List.nil_append, List.cons_append]
  have qf := eql_func_nil
  have qg := neq_func_nil
  by_cases d1 : b < a
  · have d1b := eq_true d1
    have d1c := decide_eq_true d1
    gi_wp2_with (refine ⟨trivial, ?_⟩; gi_at_call 11; refine (callsIn_wide.2 (cal_Between.calls 0 7 none 0 [] _ (Kd.C_nil _ _) (Nat.le_refl _) (by simp))).mono ?_; rintro e w1 ⟨bf, bw, bs, bh, bt, A9, c9, rfl, hcap, hb1⟩; have PA := (Par.first w a b c A c3 l).next hb1 (by simp); have q4 := PA.c4; have q5 := PA.c5; have q6 := PA.c6; have q7 := PA.c7; have q8 := PA.c8; have f8 := PA.f8; clear hcap hb1)
    have kc := World.cell?_setCell_same' w1 ⟨w.heap.size + 1 + 1 + 1 + 1, 0, none⟩ (.bool true) (by rw [q8]; rfl)
    refine ⟨.bool true, ?_, rfl, PA.bl.setCell (p := ⟨w.heap.size + 1 + 1 + 1 + 1, 0, none⟩) (by simp; omega) _⟩
    simp [results, Try.f5, go_sem, kc]
  · have d1b := eq_false d1
    have d1c := decide_eq_false d1
    have d2 : c < b := by omega
    have d2b := eq_true d2
    have d2c := decide_eq_true d2
    gi_wp2_with (refine ⟨trivial, ?_⟩; gi_at_call 11; refine (callsIn_wide.2 (cal_Between.calls 0 7 none 0 [] _ (Kd.C_nil _ _) (Nat.le_refl _) (by simp))).mono ?_; rintro e w1 ⟨bf, bw, bs, bh, bt, A9, c9, rfl, hcap, hb1⟩; have PA := (Par.first w a b c A c3 l).next hb1 (by simp); have q4 := PA.c4; have q5 := PA.c5; have q6 := PA.c6; have q7 := PA.c7; have q8 := PA.c8; have f8 := PA.f8; clear hcap hb1)
    have kc := World.cell?_setCell_same' w1 ⟨w.heap.size + 1 + 1 + 1 + 1, 0, none⟩ (.bool true) (by rw [q8]; rfl)
    refine ⟨.bool true, ?_, rfl, PA.bl.setCell (p := ⟨w.heap.size + 1 + 1 + 1 + 1, 0, none⟩) (by simp; omega) _⟩
    simp [results, Try.f5, go_sem, kc]

theorem tiles_all (a b c : Int) (A : Option Addr) (c3 : Nat) (l : List Int) (w : World) (hr : Kd.C (Kd.int .i64) w A l.length l) (hc3 : l.length ≤ c3) (hl : l.length ≤ 17592186044000) :
    Calls Try.prog 5 #[.int .i64 a, .int .i64 b, .int .i64 c, .slice A l.length c3] w fun e w' => e = .returned (.bool true) ∧ Below w.heap.size w w' := by
  by_cases h : b < a ∨ c < b
  · exact tiles_bad a b c A c3 l w h
  · have hab : a ≤ b := by omega
    have hbc : b ≤ c := by omega
    obtain ⟨K, hK⟩ : ∃ K, K = 110000 + l.length := ⟨_, rfl⟩
    have a0 : (0 : Int) ≤ if a < 0 then 0 else a := by by_cases h : a < 0 <;> simp [h] <;> omega
    have b0 : (0 : Int) ≤ if b < 0 then 0 else b := by by_cases h : b < 0 <;> simp [h] <;> omega
    have ma := many_le b _ a0
    have mb := many_le c _ b0
    have mc := many_le c _ a0
    refine tiles_good K a b c A c3 l (span l (many b (if a < 0 then 0 else a)) (if a < 0 then 0 else a)) (span l (many c (if b < 0 then 0 else b)) (if b < 0 then 0 else b)) w hr hc3 (by omega) (own_eq l hl K (by omega)) hab hbc
      (upto_eq l (by omega) b _ K _ a0 rfl (by omega)) (upto_eq l (by omega) c _ K _ b0 rfl (by omega)) ?_ ?_ ?_ ?_ (fun d => ⟨_, business_eq l d (by omega) K (by omega)⟩) ?_ ?_
    · rw [← many_two l hab hbc]; exact upto_eq l (by omega) c _ K _ a0 rfl (by omega)
    · intro d hd
      obtain ⟨h1, h2, h3⟩ := span_mem l _ _ d hd
      have hd2 : d < b := by
        have : (many b (if a < 0 then 0 else a) : Int) ≤ max (b - (if a < 0 then 0 else a)) 0 := by unfold many; omega
        omega
      refine ⟨?_, hd2, by rw [business_eq l d (by omega) K (by omega), h3]⟩
      by_cases h : a < 0
      · omega
      · rw [if_neg h] at h1; exact h1
    · intro d hd
      obtain ⟨h1, h2, h3⟩ := span_mem l _ _ d hd
      have hd2 : d < c := by
        have : (many c (if b < 0 then 0 else b) : Int) ≤ max (c - (if b < 0 then 0 else b)) 0 := by unfold many; omega
        omega
      refine ⟨?_, hd2, by rw [business_eq l d (by omega) K (by omega), h3]⟩
      by_cases h : b < 0
      · omega
      · rw [if_neg h] at h1; exact h1
    · have h1 := span_len l (many b (if a < 0 then 0 else a)) (if a < 0 then 0 else a)
      have h2 := span_len l (many c (if b < 0 then 0 else b)) (if b < 0 then 0 else b)
      rw [List.length_append]; omega
    · rw [business_eq [] 0 (by simp) K (by simp; omega)]; rfl
    · rw [← many_two l hab hbc]; exact missing_eq l hl a c K (by omega)
end Go.Proofs.Ytdebllinaffceaa.Plain
