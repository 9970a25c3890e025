/- save.Encode of what is not valid. -/
import Derived.Test.YtpoehkacfmljcaaGreatDoorZV
import Derived.Test.YtpoehkacfmljcaaGreatDoorZKB
import Derived.Test.YtpoehkacfmljcaaGreatDoorZWL
import Derived.Test.YtpoehkacfmljcaaGreatDoorZRA
set_option maxHeartbeats 4000000
set_option maxRecDepth 100000
namespace Go.Proofs.YtpoehkacfmljcaaGreatDoor.H
open Go.RowKit Go.Proofs.YtpoehkacfmljcaaGreatDoorW.PrintWords Go.Proofs.YtpoehkacfmljcaaGreatDoorW.PrintLast Go.Proofs.YtpoehkacfmljcaaGreatDoorW.PrintMore
open Go.ChangeMaps (setBlock)
attribute [local go_sem] max2_int min2_int max_two min_two max_three min_three max_four min_four
set_option linter.unusedVariables false
set_option linter.unusedSimpArgs false
open Go.Proofs.YtpoehkacfmljcaaGreatDoor.M
theorem sEncode_err (V : Int) (hV : V ≠ 0) (v0 v1 v2 v3 v4 v5 v6 v7 x0 x1 x2 x3 x4 x5 : Value) (w : World)
  (hval : ∀ W, Fr w W [] → Calls Tryz.prog 9 #[.agg #[v0, v1, v2, v3, v4, v5, v6, v7], .agg #[x0, x1, x2, x3, x4, x5]] W fun e w' => e = .returned (.int .i64 V) ∧ Fr W w' []) :
  Calls Tryz.prog 5 #[.agg #[v0, v1, v2, v3, v4, v5, v6, v7], .agg #[x0, x1, x2, x3, x4, x5]] w (SavePost ([], V) w) := by
 have CV := AsM hval
 have hd : decide (V = 0) = false := decide_eq_false hV
 clear hval
 have hut := Tryz.underlying30
 have hup := Tryz.underlying26
 go_enter Tryz.func5, Tryz.ntmps5
 go_wp2_with (first
  | (go_at_call 9; ((with_reducible refine (CV.out _ ?_).mono ?_); (next => exact FQ); rintro e W1 ⟨rfl, hF⟩; have HF1 : Aside0 (Fr w W1 []) := ⟨Fr.trans (L := []) (M := []) FQ hF (by simp)⟩; clear hF)))
 go_ret2
 exact ⟨.slice none 0 0, rfl, Buf.nil _ _ _, HF1.out⟩
theorem rSave_err (V : Int) (hV : V ≠ 0) (v0 v1 v2 v3 v4 v5 v6 v7 x0 x1 x2 x3 x4 x5 : Value) (w : World)
  (hval : ∀ W, Fr w W [] → Calls Tryz.prog 15 #[.agg #[v0, v1, v2, v3, v4, v5, v6, v7], .agg #[x0, x1, x2, x3, x4, x5]] W fun e w' => e = .returned (.int .i64 V) ∧ Fr W w' []) :
  Calls Tryz.prog 7 #[.agg #[v0, v1, v2, v3, v4, v5, v6, v7], .agg #[x0, x1, x2, x3, x4, x5]] w (SavePost ([], V) w) := by
 have CV := AsM hval
 have hd : decide (V = 0) = false := decide_eq_false hV
 clear hval
 have hut := Tryz.underlying30
 have hup := Tryz.underlying26
 go_enter Tryz.func7, Tryz.ntmps7
 go_wp2_with (first
  | (go_at_call 15; ((with_reducible refine (CV.out _ ?_).mono ?_); (next => exact FQ); rintro e W1 ⟨rfl, hF⟩; have HF1 : Aside0 (Fr w W1 []) := ⟨Fr.trans (L := []) (M := []) FQ hF (by simp)⟩; clear hF)))
 go_ret2
 exact ⟨.slice none 0 0, rfl, Buf.nil _ _ _, HF1.out⟩
theorem rSave_ok (P : Prg) (s : Stt) (hp : P.Ok) (hs : s.Ok) (A0 : Option Addr) (c0 : Nat) (A1 : Option Addr) (c1 : Nat) (A2 : Option Addr) (c2 : Nat) (A7 : Option Addr) (c7 : Nat) (B2 : Option Addr) (d2 : Nat) (B3 : Option Addr) (d3 : Nat) (w : World) (G : TabW w) (hl : P.Lies w A0 A1 A2 A7) (hl2 : Kd.C (Kd.int .i64) w B2 s.l2.length s.l2) (hl3 : Kd.C (Kd.slice 45 k45) w B3 s.l3.length s.l3)
  (hval : ∀ W, Fr w W [] → Calls Tryz.prog 15 #[.agg #[.slice A0 P.names.length c0, .slice A1 P.curs.length c1, .slice A2 P.pool.length c2, .int .i64 P.hor, .int .i64 P.cel, .int .i64 P.slo, .int .i64 P.sta, .slice A7 P.days.length c7], .agg #[.int .i64 s.n0, .int .i64 s.n1, .slice B2 s.l2.length d2, .slice B3 s.l3.length d3, .int .i64 s.n4, .int .i64 s.n5]] W fun e w' => e = .returned (.int .i64 0) ∧ Fr W w' [])
  (hcan : ∀ W, Fr w W [] → Calls Tryz.prog 75 #[.agg #[.slice A0 P.names.length c0, .slice A1 P.curs.length c1, .slice A2 P.pool.length c2, .int .i64 P.hor, .int .i64 P.cel, .int .i64 P.slo, .int .i64 P.sta, .slice A7 P.days.length c7]] W fun e w' => e = .returned (.int .i64 0) ∧ Fr W w' []) :
  Calls Tryz.prog 7 #[.agg #[.slice A0 P.names.length c0, .slice A1 P.curs.length c1, .slice A2 P.pool.length c2, .int .i64 P.hor, .int .i64 P.cel, .int .i64 P.slo, .int .i64 P.sta, .slice A7 P.days.length c7], .agg #[.int .i64 s.n0, .int .i64 s.n1, .slice B2 s.l2.length d2, .slice B3 s.l3.length d3, .int .i64 s.n4, .int .i64 s.n5]] w (SavePost (savedR P s) w) := by
 have CV := AsM hval
 have CQ : Aside0 (∀ W, Fr w W [] → Calls Tryz.prog 17 #[.agg #[.slice A0 P.names.length c0, .slice A1 P.curs.length c1, .slice A2 P.pool.length c2, .int .i64 P.hor, .int .i64 P.cel, .int .i64 P.slo, .int .i64 P.sta, .slice A7 P.days.length c7], .agg #[.int .i64 s.n0, .int .i64 s.n1, .slice B2 s.l2.length d2, .slice B3 s.l3.length d3, .int .i64 s.n4, .int .i64 s.n5]] W fun e w' => ∃ g, e = .returned (.slice (some ⟨g, 0, none⟩) 4 4) ∧ Kd.C k50 w' (some ⟨g, 0, none⟩) 4 (s.secs P.mark) ∧ Fr W w' []) := ⟨fun W h => sections_calls P s hs A0 c0 A1 c1 A2 c2 A7 c7 B2 d2 B3 d3 W (Kd.C_below hl2 h.below) (Kd.C_below hl3 h.below) (fun W2 h2 => rMark_calls P _ _ _ _ _ _ _ _ W2 (fun W3 h3 => rImage_calls P hp A0 c0 A1 c1 A2 c2 A7 c7 W3 (G.fr0 ((h.tr h2).tr h3)) (hl.fr ((h.tr h2).tr h3)) (fun W4 h4 => hcan W4 (((h.tr h2).tr h3).tr h4))))⟩
 have CS : Aside0 (∀ W g, Kd.C k50 W (some ⟨g, 0, none⟩) 4 (s.secs P.mark) → Calls Tryz.prog 16 #[.string ⟨#[80, 65, 89, 83, 65, 86, 69, 49]⟩, .slice (some ⟨g, 0, none⟩) 4 4] W fun e w' => ∃ v, e = .returned (.tuple #[v, .int .i64 0]) ∧ Buf False w' W.heap.size v (savedL P s) ∧ Fr W w' []) := ⟨fun W g h => rSeal_own (some ⟨g, 0, none⟩) 4 (s.secs P.mark) _ (by decide) W h (Nat.le_refl _) (Stt.secsOk hs P.mark_length (mark_byte P))⟩
 have hut := Tryz.underlying30
 have hup := Tryz.underlying26
 have HSR : Aside0 (savedR P s = if 4194304 < (savedL P s).length then ([], 6) else (savedL P s, 0)) := ⟨rfl⟩
 obtain ⟨SL, hSL⟩ : ∃ SL, savedL P s = SL := ⟨_, rfl⟩
 rw [hSL] at CS HSR
 clear hval hcan G hl hl2 hl3 hs hp hSL
 by_cases hbig : 4194304 < SL.length
 ·have hd : decide (4194304 < (SL.length : Int)) = true := decide_eq_true (by omega)
  have hd' : decide (4194304 < SL.length) = true := decide_eq_true hbig
  go_enter Tryz.func7, Tryz.ntmps7
  go_upto_region 4 with (first
   | (go_at_call 15; ((with_reducible refine (CV.out _ ?_).mono ?_); (next => exact FQ); rintro e W1 ⟨rfl, hF⟩; have HK1 := AsM (hF.blk (g := w.heap.size) (o := .cells #[.slice A0 P.names.length c0, .slice A1 P.curs.length c1, .slice A2 P.pool.length c2, .int .i64 P.hor, .int .i64 P.cel, .int .i64 P.slo, .int .i64 P.sta, .slice A7 P.days.length c7] 26 (0, 0)) (blk_alloc (blk_newN rfl) _) (by simp)); have HT1 := AsM (hF.blk (g := w.heap.size + 1) (o := .cells #[.int .i64 s.n0, .int .i64 s.n1, .slice B2 s.l2.length d2, .slice B3 s.l3.length d3, .int .i64 s.n4, .int .i64 s.n5] 30 (0, 0)) (blk_newN (by simp)) (by simp)); have HF1 : Aside0 (Fr w W1 []) := ⟨Fr.trans (L := []) (M := []) FQ hF (by simp)⟩; clear hF)))
  obtain ⟨sb, hsb⟩ : ∃ sb, w.heap.size + 1 = sb := ⟨_, rfl⟩
  obtain ⟨pb, hpb⟩ : ∃ pb, w.heap.size = pb := ⟨_, rfl⟩
  rw [hsb] at HT1 ⊢
  rw [hpb] at HK1 ⊢
  obtain ⟨k0, k1, k2, k3, k4, k5, k6, k7⟩ := cc8 HK1.out
  obtain ⟨x0, x1, x2, x3, x4, x5⟩ := cc6 HT1.out
  have hlt := blk_lt HK1.out
  have hlt2 := blk_lt HT1.out
  go_wp2_with (first
   | (go_at_call 17; ((with_reducible refine (CQ.out _ HF1.out).mono ?_); rintro e W2 ⟨g, rfl, hC, hF⟩; have HC2 := AsM hC; have HF2 := AsM (HF1.out.tr hF); clear hC hF))
   | (go_at_call 16; ((with_reducible refine (CS.out _ _ HC2.out).mono ?_); rintro e W3 ⟨v3, rfl, hB, hF⟩; obtain ⟨B, d, rfl, _, _⟩ := hB.reads; have HF3 := AsM (HF2.out.tr hF); clear hB hF)))
  go_ret2
  exact ⟨.slice none 0 0, (by rw [HSR.out, if_pos hbig]; rfl), by rw [HSR.out, if_pos hbig]; exact Buf.nil _ _ _, HF3.out⟩
 ·have hd : decide (4194304 < (SL.length : Int)) = false := decide_eq_false (by omega)
  have hd' : decide (4194304 < SL.length) = false := decide_eq_false hbig
  go_enter Tryz.func7, Tryz.ntmps7
  go_upto_region 4 with (first
   | (go_at_call 15; ((with_reducible refine (CV.out _ ?_).mono ?_); (next => exact FQ); rintro e W1 ⟨rfl, hF⟩; have HK1 := AsM (hF.blk (g := w.heap.size) (o := .cells #[.slice A0 P.names.length c0, .slice A1 P.curs.length c1, .slice A2 P.pool.length c2, .int .i64 P.hor, .int .i64 P.cel, .int .i64 P.slo, .int .i64 P.sta, .slice A7 P.days.length c7] 26 (0, 0)) (blk_alloc (blk_newN rfl) _) (by simp)); have HT1 := AsM (hF.blk (g := w.heap.size + 1) (o := .cells #[.int .i64 s.n0, .int .i64 s.n1, .slice B2 s.l2.length d2, .slice B3 s.l3.length d3, .int .i64 s.n4, .int .i64 s.n5] 30 (0, 0)) (blk_newN (by simp)) (by simp)); have HF1 : Aside0 (Fr w W1 []) := ⟨Fr.trans (L := []) (M := []) FQ hF (by simp)⟩; clear hF)))
  obtain ⟨sb, hsb⟩ : ∃ sb, w.heap.size + 1 = sb := ⟨_, rfl⟩
  obtain ⟨pb, hpb⟩ : ∃ pb, w.heap.size = pb := ⟨_, rfl⟩
  rw [hsb] at HT1 ⊢
  rw [hpb] at HK1 ⊢
  obtain ⟨k0, k1, k2, k3, k4, k5, k6, k7⟩ := cc8 HK1.out
  obtain ⟨x0, x1, x2, x3, x4, x5⟩ := cc6 HT1.out
  have hlt := blk_lt HK1.out
  have hlt2 := blk_lt HT1.out
  go_wp2_with (first
   | (go_at_call 17; ((with_reducible refine (CQ.out _ HF1.out).mono ?_); rintro e W2 ⟨g, rfl, hC, hF⟩; have HC2 := AsM hC; have HF2 := AsM (HF1.out.tr hF); clear hC hF))
   | (go_at_call 16; ((with_reducible refine (CS.out _ _ HC2.out).mono ?_); rintro e W3 ⟨v3, rfl, hB, hF⟩; have HB3 := AsM ((hB.lower HF2.out.size).imp (mk' := True) (fun h => h.elim)); obtain ⟨B, d, rfl, _, _⟩ := hB.reads; have HF3 := AsM (HF2.out.tr hF); clear hB hF)))
  go_ret2
  exact ⟨_, (by rw [HSR.out, if_neg hbig]; rfl), by rw [HSR.out, if_neg hbig]; exact HB3.out, HF3.out⟩
def smaB (c : Int) : Bool := decide (97 ≤ c ∧ c ≤ 122)
def runB (c : Int) : Bool := digB c || smaB c || bigB c || c == 95
theorem rCap_calls (c : Int) (w : World) : Calls Tryz.prog 154 #[.int .u8 c] w fun e w' => e = .returned (.bool (bigB c)) ∧ Drawn0 w w' := by
 by_cases h : 65 ≤ c <;> by_cases h2 : c ≤ 90
 all_goals (
  rw [show bigB c = _ from rfl]
  go_enter Tryz.func154, Tryz.ntmps154
  go_wp2
  go_ret
  exact ⟨by simp [bigB, h, h2], DQ⟩)
theorem rSma_calls (c : Int) (w : World) : Calls Tryz.prog 172 #[.int .u8 c] w fun e w' => e = .returned (.bool (smaB c)) ∧ Drawn0 w w' := by
 by_cases h : 97 ≤ c <;> by_cases h2 : c ≤ 122
 all_goals (
  rw [show smaB c = _ from rfl]
  go_enter Tryz.func172, Tryz.ntmps172
  go_wp2
  go_ret
  exact ⟨by simp [smaB, h, h2], DQ⟩)
theorem rDig_calls (c : Int) (w : World) : Calls Tryz.prog 173 #[.int .u8 c] w fun e w' => e = .returned (.bool (digB c)) ∧ Drawn0 w w' := by
 by_cases h : 48 ≤ c <;> by_cases h2 : c ≤ 57
 all_goals (
  rw [show digB c = _ from rfl]
  go_enter Tryz.func173, Tryz.ntmps173
  go_wp2
  go_ret
  exact ⟨by simp [digB, h, h2], DQ⟩)
theorem rRuns_calls (c : Int) (w : World) : Calls Tryz.prog 171 #[.int .u8 c] w fun e w' => e = .returned (.bool (runB c)) ∧ Drawn0 w w' := by
 obtain ⟨b1, h1⟩ : ∃ b, digB c = b := ⟨_, rfl⟩
 obtain ⟨b2, h2⟩ : ∃ b, smaB c = b := ⟨_, rfl⟩
 obtain ⟨b3, h3⟩ : ∃ b, bigB c = b := ⟨_, rfl⟩
 obtain ⟨b4, h4⟩ : ∃ b, (c == 95) = b := ⟨_, rfl⟩
 have H1 : Aside0 (∀ w, Calls Tryz.prog 173 #[.int .u8 c] w fun e w' => e = .returned (.bool b1) ∧ Drawn0 w w') := ⟨fun w => h1 ▸ rDig_calls c w⟩
 have H2 : Aside0 (∀ w, Calls Tryz.prog 172 #[.int .u8 c] w fun e w' => e = .returned (.bool b2) ∧ Drawn0 w w') := ⟨fun w => h2 ▸ rSma_calls c w⟩
 have H3 : Aside0 (∀ w, Calls Tryz.prog 154 #[.int .u8 c] w fun e w' => e = .returned (.bool b3) ∧ Drawn0 w w') := ⟨fun w => h3 ▸ rCap_calls c w⟩
 rw [show runB c = (b1 || b2 || b3 || b4) by unfold runB; rw [h1, h2, h3, h4]]
 clear h1 h2 h3
 cases b1 <;> cases b2 <;> cases b3
 all_goals (
  go_enter Tryz.func171, Tryz.ntmps171
  go_wp2_with (first | (go_at_call 173; (refine (H1.out _).mono ?_); rintro e w' ⟨rfl, ⟨nd, rfl⟩⟩) | (go_at_call 172; (refine (H2.out _).mono ?_); rintro e w' ⟨rfl, ⟨nd2, rfl⟩⟩) | (go_at_call 154; (refine (H3.out _).mono ?_); rintro e w' ⟨rfl, ⟨nd3, rfl⟩⟩))
  go_ret
  exact ⟨(by first | rfl | (simp; done) | (simp [*]; done)), DQ⟩)
def allRun (s : ByteArray) : Bool := (List.range s.size).all fun k => runB (bt s k)
def RunPost (s : ByteArray) (w : World) (e : Ending) (w' : World) : Prop := ∃ t : ByteArray, e = .returned (.string t) ∧ (t = s ↔ allRun s = true) ∧ Drawn0 w w'
theorem run_calls (s : ByteArray) (hs : s.size ≤ 9223372036854775806) (w : World) : Calls Tryz.prog 155 #[.string s, .int .i64 0] w (RunPost s w) := by
 have RUN : Aside0 (∀ (c : Int) (b : Bool), runB c = b → ∀ w, Calls Tryz.prog 171 #[.int .u8 c] w fun e w' => e = .returned (.bool b) ∧ Drawn0 w w') := ⟨fun c b h w => h ▸ rRuns_calls c w⟩
 go_enter Tryz.func155, Tryz.ntmps155
 go_wp2
 go_loopg [5] s.size (fun kq x wr => ∃ k : Nat, x = .int .i64 k ∧ k ≤ s.size ∧ Aside0 (s.size - k ≤ kq) ∧ Drawn0 w wr ∧ Aside0 (∀ j, j < k → runB (bt s j) = true))
 case atStart => exact ⟨0, rfl, Nat.zero_le _, ⟨Nat.le_refl _⟩, DQ, ⟨fun j hj => by omega⟩⟩
 case round =>
  obtain ⟨k, rfl, hk, HM, ⟨nk, rfl⟩, HA⟩ := hrel
  by_cases hkl : k < s.size
  ·have n3 : decide (k < s.size) = true := by simpa using hkl
   have p0 : (0 : Int) ≤ (k : Int) := by omega
   have p1 : (k : Int) < s.size := by omega
   obtain ⟨c, hc⟩ : ∃ c, bt s k = c := ⟨_, rfl⟩
   have hx : ∀ h : k < s.size, ((s[k]'h).toNat : Int) = c := fun h => (by simpa using (bt_at s k (by simpa using h)).trans hc)
   have HC := AsM hc
   clear hc
   obtain ⟨bb, hbb⟩ : ∃ b, runB c = b := ⟨_, rfl⟩
   have HBB := AsM hbb
   clear hbb
   cases bb with
   | true =>
    go_wp2_with (first | (go_at_call 171; (refine (RUN.out c _ HBB.out _).mono ?_); rintro e w' ⟨rfl, ⟨nd, rfl⟩⟩))
    go_roundg (s.size - (k + 1))
    case measure => have := HM.out; omega
    case rel =>
     refine ⟨k + 1, by go_num, by omega, ⟨Nat.le_refl _⟩, DQ, ⟨fun j hj => ?_⟩⟩
     rcases Nat.lt_or_ge j k with h | h
     ·exact HA.out j h
     ·obtain rfl : j = k := by omega
      rw [HC.out, HBB.out]
   | false =>
    go_wp2_with (first | (go_at_call 171; (refine (RUN.out c _ HBB.out _).mono ?_); rintro e w' ⟨rfl, ⟨nd, rfl⟩⟩))
    go_ret
    refine ⟨s.extract 0 k, by first | rfl | simp, ⟨fun h => ?_, fun h => ?_⟩, DQ⟩
    ·have := congrArg ByteArray.size h
     rw [ByteArray.size_extract] at this
     omega
    ·have := List.all_eq_true.1 h k (List.mem_range.2 hkl)
     rw [HC.out, HBB.out] at this
     cases this
  ·obtain rfl : k = s.size := by omega
   have n3 : decide (s.size < s.size) = false := by simp
   go_wp2
   go_ret
   refine ⟨s, by first | rfl | simp, ⟨fun _ => List.all_eq_true.2 fun k hk => HA.out k (List.mem_range.1 hk), fun _ => rfl⟩, DQ⟩
def noSma (s : ByteArray) : Bool := (List.range s.size).all fun k => !smaB (bt s k)
def NamesPost (s : ByteArray) (w : World) (e : Ending) (w' : World) : Prop := ∃ (k : Int) (t : ByteArray) (a d0 d1 d2 d3 d4 d5 pl er : Int), e = .returned (.tuple #[.agg #[.int .i64 k, .string t, .int .i64 a, .int .i64 d0, .int .i64 d1, .int .i64 d2, .int .i64 d3, .int .i64 d4, .int .i64 d5], .int .i64 pl, .int .i64 er]) ∧ (er = 0 ↔ noSma s = true ∧ s.size ≤ 31) ∧ Fr w w' []
theorem names_calls (s : ByteArray) (hs : s.size ≤ 9223372036854775806) (h0 : 0 < s.size) (hb : bigB (bt s 0) = true) (w : World) : Calls Tryz.prog 156 #[.string s, .int .i64 0] w (NamesPost s w) := by
 have CAP : Aside0 (∀ (c : Int) (b : Bool), bigB c = b → ∀ w, Calls Tryz.prog 154 #[.int .u8 c] w fun e w' => e = .returned (.bool b) ∧ Drawn0 w w') := ⟨fun c b h w => h ▸ rCap_calls c w⟩
 have SMA : Aside0 (∀ (c : Int) (b : Bool), smaB c = b → ∀ w, Calls Tryz.prog 172 #[.int .u8 c] w fun e w' => e = .returned (.bool b) ∧ Drawn0 w w') := ⟨fun c b h w => h ▸ rSma_calls c w⟩
 obtain ⟨c0, hc0⟩ : ∃ c, bt s 0 = c := ⟨_, rfl⟩
 have hx0 : ∀ h : 0 < s.size, ((s[0]'h).toNat : Int) = c0 := fun h => (bt_at s 0 h).trans hc0
 have HB0 := AsM (hc0 ▸ hb)
 clear hc0 hb
 have hut := Tryz.underlying245
 go_enter Tryz.func156, Tryz.ntmps156
 go_upto_region 2 with fail
 refine name_ (fun V => Aside0 (Fr w V []) ∧ Aside0 (V.heap[w.heap.size]? = some (.cells #[.int .i64 0, .string ⟨#[]⟩, .int .i64 0, .int .i64 0, .int .i64 0, .int .i64 0, .int .i64 0, .int .i64 0, .int .i64 0] 245 (0, 0))) ∧ Aside0 (V.heap[w.heap.size + 1]? = some (.cells #[.int .i64 1, .string s, .int .i64 0, .int .i64 0, .int .i64 0, .int .i64 0, .int .i64 0, .int .i64 0, .int .i64 0] 245 (0, 0)))) ⟨⟨FQ⟩, ⟨blk_alloc (blk_newN rfl) _⟩, ⟨blk_newN (by simp)⟩⟩ ?_
 rintro V1 ⟨HF, HR, HT⟩
 have t0 := blk_cell HT.out 0
 have y0 := blk_frozen HT.out 0
 go_upto_region 4 with (first | (go_at_call 154; (refine (CAP.out c0 true HB0.out _).mono ?_); rintro e w' ⟨rfl, ⟨nd, rfl⟩⟩))
 refine name_ (fun V => Aside0 (Fr w V []) ∧ Aside0 (V.heap[w.heap.size]? = some (.cells #[.int .i64 0, .string ⟨#[]⟩, .int .i64 0, .int .i64 0, .int .i64 0, .int .i64 0, .int .i64 0, .int .i64 0, .int .i64 0] 245 (0, 0))) ∧ Aside0 (V.heap[w.heap.size + 1]? = some (.cells #[.int .i64 2, .string s, .int .i64 0, .int .i64 0, .int .i64 0, .int .i64 0, .int .i64 0, .int .i64 0, .int .i64 0] 245 (0, 0)))) ⟨⟨by (with_reducible (repeat (first | exact Fr.refl _ _ | refine Fr.drew ?_ | refine Fr.drewN ?_ _ | refine Fr.alloc ?_ _ | refine Fr.setCell ?_ _ _ ?_))) <;> first | exact HF.out | exact .inr (by simp)⟩, ⟨at_far (blk_drewN HR.out _) (by simp) _⟩, ⟨blk_to (blk_set (blk_drewN HT.out _) 0 _) rfl⟩⟩ ?_
 clear t0 y0 hx0 HF HR HT
 rintro V ⟨HF, HR, HT⟩
 obtain ⟨t0, t1, t2, t3, t4, t5, t6, t7, t8⟩ := cc9 HT.out
 have hrl := blk_lt HT.out
 go_wp2
 go_loopg [8] s.size (fun kq x wr => ∃ k : Nat, x = .int .i64 k ∧ k ≤ s.size ∧ Aside0 (s.size - k ≤ kq) ∧ Drawn0 V wr ∧ Aside0 (∀ j, j < k → smaB (bt s j) = false))
 case atStart => exact ⟨0, rfl, Nat.zero_le _, ⟨Nat.le_refl _⟩, DQ, ⟨fun j hj => by omega⟩⟩
 case round =>
  obtain ⟨k, rfl, hk, HM, ⟨nk, rfl⟩, HA⟩ := hrel
  by_cases hkl : k < s.size
  ·have n3 : decide (k < s.size) = true := by simpa using hkl
   have p0 : (0 : Int) ≤ (k : Int) := by omega
   have p1 : (k : Int) < s.size := by omega
   obtain ⟨c, hc⟩ : ∃ c, bt s k = c := ⟨_, rfl⟩
   have hx : ∀ h : k < s.size, ((s[k]'h).toNat : Int) = c := fun h => (by simpa using (bt_at s k (by simpa using h)).trans hc)
   have HC := AsM hc
   clear hc
   obtain ⟨bb, hbb⟩ : ∃ b, smaB c = b := ⟨_, rfl⟩
   have HBB := AsM hbb
   clear hbb
   cases bb with
   | false =>
    go_wp2_with (first | (go_at_call 172; (refine (SMA.out c _ HBB.out _).mono ?_); rintro e w' ⟨rfl, ⟨nd, rfl⟩⟩))
    go_roundg (s.size - (k + 1))
    case measure => have := HM.out; omega
    case rel =>
     refine ⟨k + 1, by go_num, by omega, ⟨Nat.le_refl _⟩, DQ, ⟨fun j hj => ?_⟩⟩
     rcases Nat.lt_or_ge j k with h | h
     ·exact HA.out j h
     ·obtain rfl : j = k := by omega
      rw [HC.out, HBB.out]
   | true =>
    go_upto_region 8 with (first | (go_at_call 172; (refine (SMA.out c _ HBB.out _).mono ?_); rintro e w' ⟨rfl, ⟨nd, rfl⟩⟩))
    refine name_ (fun V => Aside0 (Fr w V []) ∧ Aside0 (V.heap[w.heap.size]? = some (.cells #[.int .i64 0, .string ⟨#[]⟩, .int .i64 0, .int .i64 0, .int .i64 0, .int .i64 0, .int .i64 0, .int .i64 0, .int .i64 0] 245 (0, 0))) ∧ Aside0 (V.heap[w.heap.size + 1]? = some (.cells #[.int .i64 2, .string s, .int .i64 0, .int .i64 0, .int .i64 0, .int .i64 0, .int .i64 0, .int .i64 0, .int .i64 0] 245 (0, 0)))) ⟨⟨FX HF.out⟩, ⟨by first | exact blk_drewN (blk_drewN HR.out _) _ | exact blk_drewN HR.out _⟩, ⟨by first | exact blk_drewN (blk_drewN HT.out _) _ | exact blk_drewN HT.out _⟩⟩ ?_
    clear t0 t1 t2 t3 t4 t5 t6 t7 t8 hrl HF HR HT
    rintro V2 ⟨HF, HR, HT⟩
    have hrl := blk_lt HT.out
    have r0 := blk_cell HR.out 0
    have z0 := blk_frozen HR.out 0
    have r1 := blk_cell HR.out 1
    have z1 := blk_frozen HR.out 1
    have r2 := blk_cell HR.out 2
    have z2 := blk_frozen HR.out 2
    have r3 := blk_cell HR.out 3
    have z3 := blk_frozen HR.out 3
    have r4 := blk_cell HR.out 4
    have z4 := blk_frozen HR.out 4
    have r5 := blk_cell HR.out 5
    have z5 := blk_frozen HR.out 5
    have r6 := blk_cell HR.out 6
    have z6 := blk_frozen HR.out 6
    have r7 := blk_cell HR.out 7
    have z7 := blk_frozen HR.out 7
    have r8 := blk_cell HR.out 8
    have z8 := blk_frozen HR.out 8
    clear hx
    go_wp2
    refine bodyPost_ret (results_list (rs := [.cell 4 245, .tmp 5, .tmp 6]) rfl (by simp) (.cell w.heap.size 245 #[.int .i64 0, .string ⟨#[]⟩, .int .i64 0, .int .i64 0, .int .i64 0, .int .i64 0, .int .i64 0, .int .i64 0, .int .i64 0] (0, 0) _ rfl ?hb hut rfl rfl (.tmp (.tmp .nil)))) rfl ?_
    case hb => exact blk_to (blk_set (blk_set (blk_set (blk_set (blk_set (blk_set (blk_set (blk_set (blk_set HR.out 0 _) 1 _) 2 _) 3 _) 4 _) 5 _) 6 _) 7 _) 8 _) rfl
    refine ⟨_, _, _, _, _, _, _, _, _, _, _, rfl, ⟨fun h => absurd h (by decide), fun h => ?_⟩, (by (with_reducible (repeat (first | exact Fr.refl _ _ | refine Fr.drew ?_ | refine Fr.drewN ?_ _ | refine Fr.alloc ?_ _ | refine Fr.setCell ?_ _ _ ?_))) <;> first | exact HF.out | exact .inr (by simp))⟩
    have := List.all_eq_true.1 h.1 k (List.mem_range.2 hkl)
    rw [HC.out, HBB.out] at this
    cases this
  ·obtain rfl : k = s.size := by omega
   have n3 : decide (s.size < s.size) = false := by simp
   by_cases h31 : 31 < s.size
   ·have n4 : decide (31 < s.size) = true := by simpa using h31
    go_upto_region 10 with fail
    refine name_ (fun V => Aside0 (Fr w V []) ∧ Aside0 (V.heap[w.heap.size]? = some (.cells #[.int .i64 0, .string ⟨#[]⟩, .int .i64 0, .int .i64 0, .int .i64 0, .int .i64 0, .int .i64 0, .int .i64 0, .int .i64 0] 245 (0, 0))) ∧ Aside0 (V.heap[w.heap.size + 1]? = some (.cells #[.int .i64 2, .string s, .int .i64 0, .int .i64 0, .int .i64 0, .int .i64 0, .int .i64 0, .int .i64 0, .int .i64 0] 245 (0, 0)))) ⟨⟨FX HF.out⟩, ⟨blk_drewN HR.out _⟩, ⟨blk_drewN HT.out _⟩⟩ ?_
    clear t0 t1 t2 t3 t4 t5 t6 t7 t8 hrl HF HR HT
    rintro V2 ⟨HF, HR, HT⟩
    have hrl := blk_lt HT.out
    have r0 := blk_cell HR.out 0
    have z0 := blk_frozen HR.out 0
    have r1 := blk_cell HR.out 1
    have z1 := blk_frozen HR.out 1
    have r2 := blk_cell HR.out 2
    have z2 := blk_frozen HR.out 2
    have r3 := blk_cell HR.out 3
    have z3 := blk_frozen HR.out 3
    have r4 := blk_cell HR.out 4
    have z4 := blk_frozen HR.out 4
    have r5 := blk_cell HR.out 5
    have z5 := blk_frozen HR.out 5
    have r6 := blk_cell HR.out 6
    have z6 := blk_frozen HR.out 6
    have r7 := blk_cell HR.out 7
    have z7 := blk_frozen HR.out 7
    have r8 := blk_cell HR.out 8
    have z8 := blk_frozen HR.out 8
    go_wp2
    refine bodyPost_ret (results_list (rs := [.cell 4 245, .tmp 5, .tmp 6]) rfl (by simp) (.cell w.heap.size 245 #[.int .i64 0, .string ⟨#[]⟩, .int .i64 0, .int .i64 0, .int .i64 0, .int .i64 0, .int .i64 0, .int .i64 0, .int .i64 0] (0, 0) _ rfl ?hb hut rfl rfl (.tmp (.tmp .nil)))) rfl ?_
    case hb => exact blk_to (blk_set (blk_set (blk_set (blk_set (blk_set (blk_set (blk_set (blk_set (blk_set HR.out 0 _) 1 _) 2 _) 3 _) 4 _) 5 _) 6 _) 7 _) 8 _) rfl
    exact ⟨_, _, _, _, _, _, _, _, _, _, _, rfl, ⟨fun h => absurd h (by decide), fun h => by omega⟩, (by (with_reducible (repeat (first | exact Fr.refl _ _ | refine Fr.drew ?_ | refine Fr.drewN ?_ _ | refine Fr.alloc ?_ _ | refine Fr.setCell ?_ _ _ ?_))) <;> first | exact HF.out | exact .inr (by simp))⟩
   ·have n4 : decide (31 < s.size) = false := by simpa using h31
    go_upto_region 11 with fail
    refine name_ (fun V => Aside0 (Fr w V []) ∧ Aside0 (V.heap[w.heap.size]? = some (.cells #[.int .i64 0, .string ⟨#[]⟩, .int .i64 0, .int .i64 0, .int .i64 0, .int .i64 0, .int .i64 0, .int .i64 0, .int .i64 0] 245 (0, 0))) ∧ Aside0 (V.heap[w.heap.size + 1]? = some (.cells #[.int .i64 2, .string s, .int .i64 0, .int .i64 0, .int .i64 0, .int .i64 0, .int .i64 0, .int .i64 0, .int .i64 0] 245 (0, 0)))) ⟨⟨FX HF.out⟩, ⟨blk_drewN HR.out _⟩, ⟨blk_drewN HT.out _⟩⟩ ?_
    clear t0 t1 t2 t3 t4 t5 t6 t7 t8 hrl HF HR HT
    rintro V2 ⟨HF, HR, HT⟩
    have hrl := blk_lt HT.out
    have r0 := blk_cell HR.out 0
    have z0 := blk_frozen HR.out 0
    have r1 := blk_cell HR.out 1
    have z1 := blk_frozen HR.out 1
    have r2 := blk_cell HR.out 2
    have z2 := blk_frozen HR.out 2
    have r3 := blk_cell HR.out 3
    have z3 := blk_frozen HR.out 3
    have r4 := blk_cell HR.out 4
    have z4 := blk_frozen HR.out 4
    have r5 := blk_cell HR.out 5
    have z5 := blk_frozen HR.out 5
    have r6 := blk_cell HR.out 6
    have z6 := blk_frozen HR.out 6
    have r7 := blk_cell HR.out 7
    have z7 := blk_frozen HR.out 7
    have r8 := blk_cell HR.out 8
    have z8 := blk_frozen HR.out 8
    obtain ⟨t0, t1, t2, t3, t4, t5, t6, t7, t8⟩ := cc9 HT.out
    go_wp2
    refine bodyPost_ret (results_list (rs := [.cell 4 245, .tmp 5, .tmp 6]) rfl (by simp) (.cell w.heap.size 245 #[.int .i64 2, .string s, .int .i64 0, .int .i64 0, .int .i64 0, .int .i64 0, .int .i64 0, .int .i64 0, .int .i64 0] (0, 0) _ rfl ?hb hut rfl rfl (.tmp (.tmp .nil)))) rfl ?_
    case hb => exact blk_to (blk_set (blk_set (blk_set (blk_set (blk_set (blk_set (blk_set (blk_set (blk_set HR.out 0 _) 1 _) 2 _) 3 _) 4 _) 5 _) 6 _) 7 _) 8 _) rfl
    refine ⟨_, _, _, _, _, _, _, _, _, _, _, rfl, ⟨fun _ => ⟨List.all_eq_true.2 fun k hk => ?_, by omega⟩, fun _ => rfl⟩, (by (with_reducible (repeat (first | exact Fr.refl _ _ | refine Fr.drew ?_ | refine Fr.drewN ?_ _ | refine Fr.alloc ?_ _ | refine Fr.setCell ?_ _ _ ?_))) <;> first | exact HF.out | exact .inr (by simp))⟩
    rw [HA.out k (List.mem_range.1 hk)]
    rfl
theorem named_iff (s : ByteArray) : namedB s = (decide (1 ≤ s.size) && bigB (bt s 0) && allRun s && noSma s && decide (s.size ≤ 31)) := by
 have h : ((List.range s.size).all fun k => namB (bt s k)) = (allRun s && noSma s) := by
  unfold allRun noSma
  rw [Bool.eq_iff_iff]
  simp only [Bool.and_eq_true, List.all_eq_true, List.mem_range]
  constructor
  ·intro h
   refine ⟨fun k hk => ?_, fun k hk => ?_⟩
   ·have := h k hk
    simp only [namB, runB, Bool.or_eq_true] at this ⊢
    rcases this with (h1 | h1) | h1
    ·exact .inl (.inr h1)
    ·exact .inl (.inl (.inl h1))
    ·exact .inr h1
   ·have := h k hk
    simp only [namB, bigB, digB, smaB, Bool.or_eq_true, decide_eq_true_eq, beq_iff_eq, Bool.not_eq_true', decide_eq_false_iff_not] at this ⊢
    omega
  ·rintro ⟨h1, h2⟩ k hk
   have a := h1 k hk
   have b := h2 k hk
   simp only [namB, runB, Bool.or_eq_true, Bool.not_eq_true'] at a b ⊢
   rcases a with ((a | a) | a) | a
   ·exact .inl (.inr a)
   ·rw [a] at b; cases b
   ·exact .inl (.inl a)
   ·exact .inr a
 unfold namedB
 rw [h]
 cases decide (1 ≤ s.size) <;> cases decide (s.size ≤ 31) <;> cases bigB (bt s 0) <;> cases allRun s <;> cases noSma s <;> rfl
theorem bstr_inj {s t : ByteArray} (h : s.toList = t.toList) : s = t := by
 rw [ByteArray.toList_eq, ByteArray.toList_eq] at h
 exact ByteArray.ext (Array.toList_inj.1 h)
theorem size0 {s : ByteArray} (h : s.size = 0) : s = ⟨#[]⟩ := by
 rcases s with ⟨⟨l⟩⟩
 have : l = [] := List.eq_nil_of_length_eq_zero (by simpa [ByteArray.size] using h)
 rw [this]
theorem rCapital_calls (s : ByteArray) (hs : s.size ≤ 9223372036854775806) (w : World) : Calls Tryz.prog 129 #[.string s] w (MayPost (namedB s) w) := by
 have CAP : Aside0 (∀ (c : Int) (b : Bool), bigB c = b → ∀ w, Calls Tryz.prog 154 #[.int .u8 c] w fun e w' => e = .returned (.bool b) ∧ Drawn0 w w') := ⟨fun c b h w => h ▸ rCap_calls c w⟩
 have hut := Tryz.underlying245
 by_cases h0 : s.size = 0
 case pos =>
  obtain rfl := size0 h0
  clear h0 hs
  rw [show namedB ⟨#[]⟩ = false from by unfold namedB; rfl]
  go_enter Tryz.func129, Tryz.ntmps129
  go_wp2
  go_ret
  exact ⟨rfl, FQ⟩
 case neg =>
 have n0 : 0 < s.size := by omega
 have e0 : s.toList.isEmpty = false := by
  cases h : s.toList.isEmpty
  ·rfl
  ·have h1 : s.toList = [] := by simpa using h
   have h2 : s.toList.length = s.size := by rw [ByteArray.toList_eq, Array.length_toList]; rfl
   rw [h1] at h2
   simp at h2
   omega
 have e1 : ¬ s.toList = [] := fun h => by rw [h] at e0; simp at e0
 obtain ⟨c0, hc0⟩ : ∃ c, bt s 0 = c := ⟨_, rfl⟩
 have hx0 : ∀ h : 0 < s.size, ((s[0]'h).toNat : Int) = c0 := fun h => (bt_at s 0 h).trans hc0
 obtain ⟨b0, hb0⟩ : ∃ b, bigB c0 = b := ⟨_, rfl⟩
 obtain ⟨b1, hb1⟩ : ∃ b, allRun s = b := ⟨_, rfl⟩
 have hN : namedB s = (b0 && b1 && noSma s && decide (s.size ≤ 31)) := by rw [named_iff, hc0, hb0, hb1, show decide (1 ≤ s.size) = true by simp; omega]; simp
 have HRUN := AsM (run_calls s hs)
 have HB0 := AsM hb0
 have HB1 := AsM hb1
 have HNM : Aside0 (b0 = true → ∀ W, Calls Tryz.prog 156 #[.string s, .int .i64 0] W (NamesPost s W)) := ⟨fun h W => names_calls s hs n0 (by rw [hc0, hb0, h]) W⟩
 have HN := AsM hN
 clear hc0 hb0 hb1 hN h0
 cases b0 with
 | false =>
  rw [HN.out]
  go_enter Tryz.func129, Tryz.ntmps129
  go_wp2_with (first | (go_at_call 154; (refine (CAP.out c0 _ HB0.out _).mono ?_); rintro e w' ⟨rfl, ⟨nd, rfl⟩⟩))
  go_ret
  exact ⟨rfl, FQ⟩
 | true =>
 cases b1 with
 | false =>
  rw [HN.out]
  go_enter Tryz.func129, Tryz.ntmps129
  go_wp2_with (first | (go_at_call 154; (refine (CAP.out c0 _ HB0.out _).mono ?_); rintro e w' ⟨rfl, ⟨nd, rfl⟩⟩) | (go_at_call 155; (refine (HRUN.out _).mono ?_); (rintro e w' ⟨t, rfl, ht, ⟨nd2, rfl⟩⟩); have hts : ¬ t = s := (fun h => absurd (ht.1 h) (by rw [HB1.out]; decide)); have htl : ¬ t.toList = s.toList := (fun h => hts (bstr_inj h)); have htb : (t.toList == s.toList) = false := (beq_eq_false_iff_ne.2 htl); clear ht hts))
  go_ret
  exact ⟨rfl, FQ⟩
 | true =>
  go_enter Tryz.func129, Tryz.ntmps129
  go_wp2_with (first | (go_at_call 154; (refine (CAP.out c0 _ HB0.out _).mono ?_); rintro e w' ⟨rfl, ⟨nd, rfl⟩⟩) | (go_at_call 155; (refine (HRUN.out _).mono ?_); (rintro e w' ⟨t, rfl, ht, ⟨nd2, rfl⟩⟩); obtain rfl : s = t := (ht.2 HB1.out).symm; clear ht) | (go_at_call 156; (refine (HNM.out trivial _).mono ?_); rintro e W1 ⟨k, tt, a, d0, d1, d2, d3, d4, d5, pl, er, rfl, her, hF1⟩; have HF1 : Aside0 (Fr w W1 []) := ⟨Fr.trans (M := []) FQ hF1 (by simp)⟩; have HER := AsM her; clear hF1 her))
  go_ret
  refine ⟨?_, by (with_reducible (repeat (first | exact Fr.refl _ _ | refine Fr.drew ?_ | refine Fr.drewN ?_ _ | refine Fr.alloc ?_ _ | refine Fr.setCell ?_ _ _ ?_))) <;> first | exact HF1.out | simp⟩
  have : (er == 0) = (noSma s && decide (s.size ≤ 31)) := by
   have h := HER.out
   by_cases h9 : er = 0
   ·obtain ⟨h1, h2⟩ := h.1 h9
    rw [h1]; simp [h9, h2]
   ·have : ¬ (noSma s = true ∧ s.size ≤ 31) := fun h8 => h9 (h.2 h8)
    cases hh : noSma s
    ·simp [h9]
    ·have h31 : ¬ s.size ≤ 31 := fun h8 => this ⟨hh, h8⟩
     simp [h9, h31]
  rw [HN.out]
  simp [this]
theorem rCurrency_calls (s : ByteArray) (w : World) : Calls Tryz.prog 130 #[.string s] w fun e w' => e = .returned (.bool (curB s)) ∧ Drawn0 w w' := by
 have CAP : Aside0 (∀ (c : Int) (b : Bool), bigB c = b → ∀ w, Calls Tryz.prog 154 #[.int .u8 c] w fun e w' => e = .returned (.bool b) ∧ Drawn0 w w') := ⟨fun c b h w => h ▸ rCap_calls c w⟩
 by_cases h3 : s.size = 3
 case neg =>
  have n1 : ((s.size : Int) == 3) = false := by rw [beq_eq_false_iff_ne]; omega
  rw [show curB s = false by unfold curB; simp [h3]]
  go_enter Tryz.func130, Tryz.ntmps130
  go_wp2
  go_ret
  exact ⟨rfl, DQ⟩
 case pos =>
 have n1 : ((s.size : Int) == 3) = true := by rw [beq_iff_eq]; omega
 have q0 : 0 < s.size := by omega
 have q1 : 1 < s.size := by omega
 have q2 : 2 < s.size := by omega
 obtain ⟨c0, hc0⟩ : ∃ c, bt s 0 = c := ⟨_, rfl⟩
 obtain ⟨c1, hc1⟩ : ∃ c, bt s 1 = c := ⟨_, rfl⟩
 obtain ⟨c2, hc2⟩ : ∃ c, bt s 2 = c := ⟨_, rfl⟩
 have hx0 : ∀ h : 0 < s.size, ((s[0]'h).toNat : Int) = c0 := fun h => (bt_at s 0 h).trans hc0
 have hx1 : ∀ h : 1 < s.size, ((s[1]'h).toNat : Int) = c1 := fun h => (bt_at s 1 h).trans hc1
 have hx2 : ∀ h : 2 < s.size, ((s[2]'h).toNat : Int) = c2 := fun h => (bt_at s 2 h).trans hc2
 obtain ⟨b0, hb0⟩ : ∃ b, bigB c0 = b := ⟨_, rfl⟩
 obtain ⟨b1, hb1⟩ : ∃ b, bigB c1 = b := ⟨_, rfl⟩
 obtain ⟨b2, hb2⟩ : ∃ b, bigB c2 = b := ⟨_, rfl⟩
 have hN : curB s = (b0 && b1 && b2) := by unfold curB; rw [hc0, hc1, hc2, hb0, hb1, hb2]; simp [h3]
 have HB0 := AsM hb0
 have HB1 := AsM hb1
 have HB2 := AsM hb2
 rw [hN]
 clear hc0 hc1 hc2 hb0 hb1 hb2 hN h3
 cases b0 <;> cases b1
 all_goals (
  go_enter Tryz.func130, Tryz.ntmps130
  go_wp2_with (first | (go_at_call 154; (with_reducible refine (CAP.out c0 _ HB0.out _).mono ?_); rintro e w' ⟨rfl, ⟨nd, rfl⟩⟩) | (go_at_call 154; (with_reducible refine (CAP.out c1 _ HB1.out _).mono ?_); rintro e w' ⟨rfl, ⟨nd1, rfl⟩⟩) | (go_at_call 154; (with_reducible refine (CAP.out c2 _ HB2.out _).mono ?_); rintro e w' ⟨rfl, ⟨nd2, rfl⟩⟩))
  go_ret
  exact ⟨by simp, DQ⟩)
end Go.Proofs.YtpoehkacfmljcaaGreatDoor.H
