/- The reference's wrong. -/
import Derived.Test.YtmfbdmjgkcijcaaDoorZV
import Derived.Test.YtmfbdmjgkcijcaaDoorZRB
import Derived.Test.YtmfbdmjgkcijcaaDoorZKC
namespace Go.Proofs.YtmfbdmjgkcijcaaDoor.H
open Go.RowKit Go.Proofs.YtmfbdmjgkcijcaaDoorW.PrintWords Go.Proofs.YtmfbdmjgkcijcaaDoorW.PrintLast Go.Proofs.YtmfbdmjgkcijcaaDoorW.PrintMore
open Go.ChangeMaps (setBlock)
attribute [local go_sem] max2_int min2_int max_two min_two max_three min_three max_four min_four
set_option linter.unusedVariables false
set_option linter.unusedSimpArgs false
open Go.Proofs.YtmfbdmjgkcijcaaDoor.M
def badAt (t xs : List Int) (k : Nat) : Bool := !(decide (t.getD k 0 = 0)) && !(decide (xs.getD (xs.length - t.length + k) 0 = t.getD k 0))
def sortBad (t xs : List Int) : Bool := (List.range t.length).any (badAt t xs)
def wrongP (has : Bool) (xs : List Int) (sl : List KS) (op A B day : Int) (ak n : Nat) : Int :=
  if has = false then 146 else
  if xs.length < (takesL op).length ∨ (op = 0 ∧ 0 < xs.length) then 142 else
  if sortBad (takesL op) xs = true then 143 else
  if op = 7 ∧ slotL sl A = 0 then 144 else
  if op = 3 ∧ day < B then 145 else
  if (op = 26 ∨ op = 27) ∧ (n : Int) ≤ ak + 1 + A then 141 else 0
theorem takes_len (op : Int) (h0 : 0 ≤ op) (h1 : op < 29) : (takesL op).length ≤ 3 := by
  obtain ⟨_, _, hk3, _⟩ := kTP op.toNat (by omega)
  rw [show ((op.toNat : Nat) : Int) = op by omega] at hk3
  unfold takesL
  repeat' split
  all_goals simp
  all_goals omega
set_option maxHeartbeats 4000000 in
set_option maxRecDepth 100000 in
theorem wrong_calls (has : Bool) (SA : Option Addr) (sc : Nat) (xs : List Int) (SB : Option Addr) (sd : Nat) (sl : List KS) (op A B day : Int) (ak n : Nat) (w : World) (h0 : 0 ≤ op) (h1 : op < 29) (hA0 : 0 ≤ A) (hA1 : A ≤ 1000000) (hak : ak ≤ 1000000) (hxl : xs.length ≤ 1000000000)
    (hC : Kd.C (Kd.int .i64) w SA xs.length xs) (hS : Kd.C k129 w SB sl.length sl) (G : TabW w) :
    Calls Tryd.prog 40 #[.agg #[.bool has, .slice SA xs.length sc, .slice SB sl.length sd], .agg #[.int .i64 op, .int .i64 A, .int .i64 B], .int .i64 day, .int .i64 ak, .int .i64 n] w (SvPost (wrongP has xs sl op A B day ak n) w) := by
  obtain ⟨R, hR⟩ : ∃ x, wrongP has xs sl op A B day ak n = x := ⟨_, rfl⟩
  rw [hR]
  unfold wrongP at hR
  have hup := Tryd.underlying89
  have hui := Tryd.underlying64
  have HC := Aside0.mk hC
  have HS := Aside0.mk hS
  cases has
  case false =>
    rw [if_pos rfl] at hR
    subst hR
    clear hC hS G
    go_enter Tryd.func40, Tryd.ntmps40
    go_wp2
    go_ret
    exact ⟨rfl, FQ⟩
  case true =>
  rw [if_neg (by decide)] at hR
  have HT := Aside0.mk (fun W (hf : Fr w W []) => takes_calls op h0 h1 W (G.fr0 hf))
  have htl := takes_len op h0 h1
  generalize takesL op = t at hR HT htl
  have HR := Aside0.mk hR
  clear hR hC hS G
  go_enter Tryd.func40, Tryd.ntmps40
  go_upto_region 4 with (first | (go_at_call 57; (with_reducible refine (HT.out _ ?_).mono ?_); (next => exact FQ); rintro e W1 ⟨TA, tc, rfl, htc, hT1, hF1⟩; have HX1 := Aside0.mk (hF1.blk (g := w.heap.size) (blk_alloc (blk_newN rfl) _) (by simp)); have HY1 := Aside0.mk (hF1.blk (g := w.heap.size + 1) (blk_newN (by simp)) (by simp)); have HF1 : Aside0 (Fr w W1 []) := ⟨Fr.trans (M := []) FQ hF1 (by simp)⟩; have HT1 := Aside0.mk hT1; clear hF1 hT1))
  have x1 := blk_cell HX1.out 1
  have x2 := blk_cell HX1.out 2
  have y0 := blk_cell HY1.out 0
  have y1 := blk_cell HY1.out 1
  have y2 := blk_cell HY1.out 2
  have hyl := blk_lt HY1.out
  by_cases c1 : xs.length < t.length
  · have n1 : decide (xs.length < t.length) = true := by simpa using c1
    obtain rfl : 142 = R := by rw [← HR.out, if_pos (.inl c1)]
    clear c1
    go_wp2
    go_ret
    exact ⟨rfl, HF1.out⟩
  have n1 : decide (xs.length < t.length) = false := by simpa using c1
  by_cases c2 : op = 0 ∧ 0 < xs.length
  · obtain ⟨c2, c3⟩ := c2
    subst c2
    have n2 : decide (0 < xs.length) = true := by simpa using c3
    obtain rfl : 142 = R := by rw [← HR.out, if_pos (.inr ⟨rfl, c3⟩)]
    go_wp2
    go_ret
    exact ⟨rfl, HF1.out⟩
  have hr1 := HR.out
  rw [if_neg (fun h => h.elim c1 c2)] at hr1
  have HR1 := Aside0.mk hr1
  clear hr1 HR
  go_cut [35] (fun b wx => b = .bool false ∧ wx = W1)
  case first =>
    by_cases c3 : op = 0
    · subst c3
      have n2 : decide (0 < xs.length) = false := by simpa using c2
      go_wp2
      go_meet
      exact ⟨rfl, rfl⟩
    · have n2 : (op == 0) = false := by simpa using c3
      clear c2
      go_wp2
      go_meet
      exact ⟨rfl, rfl⟩
  case rest =>
  obtain ⟨rfl, rfl⟩ := hcut
  have HC1 := Aside0.mk c1
  clear c1 c2
  go_wp2
  go_loopg [12] t.length (fun kq s12 wr => ∃ k : Nat, s12 = .int .i64 k ∧ k ≤ t.length ∧ Aside0 (t.length - k ≤ kq) ∧ Drawn0 wc wr ∧ Aside0 ((List.range k).any (badAt t xs) = false))
  case atStart => exact ⟨0, rfl, Nat.zero_le _, ⟨Nat.le_refl _⟩, DQ, ⟨rfl⟩⟩
  case round =>
    obtain ⟨k, rfl, hk, HM, ⟨nk, rfl⟩, HA⟩ := hrel
    by_cases hkl : k < t.length
    · have n3 : decide (k < t.length) = true := by simpa using hkl
      have hct := HC1.out
      obtain ⟨adt, rfl, h2⟩ := int_at HT1.out k hkl
      obtain ⟨jx, hjx⟩ : ∃ jx, xs.length - t.length + k = jx := ⟨_, rfl⟩
      have hjl : jx < xs.length := by omega
      obtain ⟨adx, rfl, h3⟩ := int_at (Kd.C_below HC.out HF1.out.below) jx hjl
      obtain ⟨tk, htk⟩ : ∃ x, t.getD k 0 = x := ⟨_, rfl⟩
      obtain ⟨xk, hxk⟩ : ∃ x, xs.getD jx 0 = x := ⟨_, rfl⟩
      have hbad : badAt t xs k = (!(decide (tk = 0)) && !(decide (xk = tk))) := by unfold badAt; rw [hjx, htk, hxk]
      rw [htk] at h2
      rw [hxk] at h3
      have e1 : IntKind.i64.wrap ((xs.length : Int) - (t.length : Int)) = (xs.length : Int) - (t.length : Int) := by rw [i64_w]; unfold wrap64; omega
      have e2 : IntKind.i64.wrap ((xs.length : Int) - (t.length : Int) + (k : Int)) = (jx : Int) := by rw [i64_w]; unfold wrap64; omega
      have HBAD := Aside0.mk hbad
      clear hjx htk hxk hbad hct
      by_cases ht0 : tk = 0
      · have n4 : (tk != 0) = false := by simpa using ht0
        have HT0 := Aside0.mk ht0
        clear ht0
        go_upto_region 9 with fail
        go_quiet (fail)
        go_wp2
        go_roundg (t.length - (k + 1))
        case measure => have := HM.out; omega
        case rel => exact ⟨k + 1, by go_num, by omega, ⟨Nat.le_refl _⟩, DQ, ⟨by rw [List.range_succ, List.any_append, HA.out]; simp [HBAD.out, HT0.out]⟩⟩
      · have n4 : (tk != 0) = true := by simpa using ht0
        by_cases hxt : xk = tk
        · have n5 : (xk != tk) = false := by simpa using hxt
          have HXT := Aside0.mk hxt
          clear ht0 hxt
          go_upto_region 9 with fail
          go_quiet (fail)
          go_wp2
          go_roundg (t.length - (k + 1))
          case measure => have := HM.out; omega
          case rel => exact ⟨k + 1, by go_num, by omega, ⟨Nat.le_refl _⟩, DQ, ⟨by rw [List.range_succ, List.any_append, HA.out]; simp [HBAD.out, HXT.out]⟩⟩
        · have n5 : (xk != tk) = true := by simpa using hxt
          obtain rfl : 143 = R := by
            rw [← HR1.out, if_pos]
            unfold sortBad
            exact List.any_eq_true.2 ⟨k, List.mem_range.2 hkl, by rw [HBAD.out]; simp [ht0, hxt]⟩
          clear ht0 hxt
          go_upto_region 9 with fail
          go_quiet (fail)
          go_wp2
          go_ret
          exact ⟨rfl, by (with_reducible (repeat (first | exact Fr.refl _ _ | refine Fr.drew ?_ | refine Fr.drewN ?_ _ | refine Fr.alloc ?_ _ | refine Fr.setCell ?_ _ _ ?_))); exact HF1.out⟩
    · obtain rfl : k = t.length := by omega
      have n3 : decide (t.length < t.length) = false := by simp
      have hr2 := HR1.out
      have hsb := HA.out
      rw [if_neg (by unfold sortBad; rw [hsb]; decide)] at hr2
      have HSL : Aside0 (Calls Tryd.prog 58 #[.slice SB sl.length sd, .int .i64 A] (wc.drewN nk) fun e w' => e = .returned (.int .i64 (slotL sl A)) ∧ Drawn0 (wc.drewN nk) w') := ⟨slot_calls SB sd sl A _ (Kd.C_below HS.out (Fr.drewN HF1.out nk).below)⟩
      obtain ⟨sv, hsv⟩ : ∃ x, slotL sl A = x := ⟨_, rfl⟩
      rw [hsv] at hr2
      have HSL := Aside0.mk (hsv ▸ HSL.out)
      have HR2 := Aside0.mk hr2
      clear hr2 hsb hsv
      go_upto_region 11 with fail
      by_cases c7 : op = 7
      · subst c7
        by_cases c8 : sv = 0
        · have n8 : (sv == 0) = true := by simpa using c8
          obtain rfl : 144 = R := by rw [← HR2.out]; simp [c8]
          clear c8
          go_wp2_with (first | (go_at_call 58; (refine (HSL.out).mono ?_); rintro e w' ⟨rfl, ⟨nd, rfl⟩⟩))
          go_ret
          exact ⟨rfl, by (with_reducible (repeat (first | exact Fr.refl _ _ | refine Fr.drew ?_ | refine Fr.drewN ?_ _ | refine Fr.alloc ?_ _ | refine Fr.setCell ?_ _ _ ?_))); exact HF1.out⟩
        · have n8 : (sv == 0) = false := by simpa using c8
          obtain rfl : 0 = R := by rw [← HR2.out]; simp [c8]
          clear c8
          go_wp2_with (first | (go_at_call 58; (refine (HSL.out).mono ?_); rintro e w' ⟨rfl, ⟨nd, rfl⟩⟩))
          go_ret
          exact ⟨rfl, by (with_reducible (repeat (first | exact Fr.refl _ _ | refine Fr.drew ?_ | refine Fr.drewN ?_ _ | refine Fr.alloc ?_ _ | refine Fr.setCell ?_ _ _ ?_))); exact HF1.out⟩
      have n7 : (op == 7) = false := by simpa using c7
      by_cases c3 : op = 3
      · subst c3
        by_cases c8 : day < B
        · have n8 : decide (day < B) = true := by simpa using c8
          obtain rfl : 145 = R := by rw [← HR2.out]; simp [c8]
          clear c7
          go_wp2_with (first | (go_at_call 58; (refine (HSL.out).mono ?_); rintro e w' ⟨rfl, ⟨nd, rfl⟩⟩))
          go_ret
          exact ⟨rfl, by (with_reducible (repeat (first | exact Fr.refl _ _ | refine Fr.drew ?_ | refine Fr.drewN ?_ _ | refine Fr.alloc ?_ _ | refine Fr.setCell ?_ _ _ ?_))); exact HF1.out⟩
        · have n8 : decide (day < B) = false := by simpa using c8
          obtain rfl : 0 = R := by rw [← HR2.out]; simp [c8]
          clear c7 c8
          go_wp2_with (first | (go_at_call 58; (refine (HSL.out).mono ?_); rintro e w' ⟨rfl, ⟨nd, rfl⟩⟩))
          go_ret
          exact ⟨rfl, by (with_reducible (repeat (first | exact Fr.refl _ _ | refine Fr.drew ?_ | refine Fr.drewN ?_ _ | refine Fr.alloc ?_ _ | refine Fr.setCell ?_ _ _ ?_))); exact HF1.out⟩
      have n6 : (op == 3) = false := by simpa using c3
      have hm : IntKind.i64.wrap ((ak : Int) + 1) = (ak : Int) + 1 := by rw [i64_w]; unfold wrap64; omega
      by_cases c9 : op = 26 ∨ op = 27
      · by_cases c8 : (n : Int) ≤ ak + 1 + A
        · have n8 : decide ((n : Int) ≤ (ak : Int) + 1 + A) = true := by simpa using c8
          obtain rfl : 141 = R := by rw [← HR2.out, if_neg (fun h => c7 h.1), if_neg (fun h => c3 h.1), if_pos ⟨c9, c8⟩]
          clear c7 c3
          rcases c9 with rfl | rfl
          · go_wp2_with (first | (go_at_call 58; (refine (HSL.out).mono ?_); rintro e w' ⟨rfl, ⟨nd, rfl⟩⟩))
            go_ret
            exact ⟨rfl, by (with_reducible (repeat (first | exact Fr.refl _ _ | refine Fr.drew ?_ | refine Fr.drewN ?_ _ | refine Fr.alloc ?_ _ | refine Fr.setCell ?_ _ _ ?_))); exact HF1.out⟩
          · go_wp2_with (first | (go_at_call 58; (refine (HSL.out).mono ?_); rintro e w' ⟨rfl, ⟨nd, rfl⟩⟩))
            go_ret
            exact ⟨rfl, by (with_reducible (repeat (first | exact Fr.refl _ _ | refine Fr.drew ?_ | refine Fr.drewN ?_ _ | refine Fr.alloc ?_ _ | refine Fr.setCell ?_ _ _ ?_))); exact HF1.out⟩
        · have n8 : decide ((n : Int) ≤ (ak : Int) + 1 + A) = false := by simpa using c8
          obtain rfl : 0 = R := by rw [← HR2.out, if_neg (fun h => c7 h.1), if_neg (fun h => c3 h.1), if_neg (fun h => c8 h.2)]
          clear c7 c3
          rcases c9 with rfl | rfl
          · go_wp2_with (first | (go_at_call 58; (refine (HSL.out).mono ?_); rintro e w' ⟨rfl, ⟨nd, rfl⟩⟩))
            go_ret
            exact ⟨rfl, by (with_reducible (repeat (first | exact Fr.refl _ _ | refine Fr.drew ?_ | refine Fr.drewN ?_ _ | refine Fr.alloc ?_ _ | refine Fr.setCell ?_ _ _ ?_))); exact HF1.out⟩
          · go_wp2_with (first | (go_at_call 58; (refine (HSL.out).mono ?_); rintro e w' ⟨rfl, ⟨nd, rfl⟩⟩))
            go_ret
            exact ⟨rfl, by (with_reducible (repeat (first | exact Fr.refl _ _ | refine Fr.drew ?_ | refine Fr.drewN ?_ _ | refine Fr.alloc ?_ _ | refine Fr.setCell ?_ _ _ ?_))); exact HF1.out⟩
      have n5 : (op == 26) = false := by rw [beq_eq_false_iff_ne]; omega
      have n4 : (op == 27) = false := by rw [beq_eq_false_iff_ne]; omega
      obtain rfl : 0 = R := by rw [← HR2.out, if_neg (fun h => c7 h.1), if_neg (fun h => c3 h.1), if_neg (fun h => c9 h.1)]
      clear c7 c3 c9
      go_wp2_with (first | (go_at_call 58; (refine (HSL.out).mono ?_); rintro e w' ⟨rfl, ⟨nd, rfl⟩⟩))
      go_ret
      exact ⟨rfl, by (with_reducible (repeat (first | exact Fr.refl _ _ | refine Fr.drew ?_ | refine Fr.drewN ?_ _ | refine Fr.alloc ?_ _ | refine Fr.setCell ?_ _ _ ?_))); exact HF1.out⟩
end Go.Proofs.YtmfbdmjgkcijcaaDoor.H
