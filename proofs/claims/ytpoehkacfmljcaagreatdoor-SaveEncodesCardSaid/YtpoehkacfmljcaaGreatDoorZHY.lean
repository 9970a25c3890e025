/- image: a day's code. -/
import Derived.Test.YtpoehkacfmljcaaGreatDoorZV
import Derived.Test.YtpoehkacfmljcaaGreatDoorZHJ
import Derived.Outline
set_option maxHeartbeats 4000000
set_option maxRecDepth 100000
namespace Go.Proofs.YtpoehkacfmljcaaGreatDoor.H
open Go.RowKit Go.Proofs.YtpoehkacfmljcaaGreatDoorW.PrintWords Go.Proofs.YtpoehkacfmljcaaGreatDoorW.PrintLast Go.Proofs.YtpoehkacfmljcaaGreatDoorW.PrintMore
open Go.ChangeMaps (setBlock)
attribute [local go_sem] max2_int min2_int max_two min_two max_three min_three max_four min_four
set_option linter.unusedVariables false
set_option linter.unusedSimpArgs false
open Go.Proofs.YtpoehkacfmljcaaGreatDoor.M
theorem useStep_len (cel slo op A : Int) (b : BL) : (useStep cel slo op A b).2.1.length = b.1.length ∧ (useStep cel slo op A b).2.2.1.length = b.2.1.length ∧ (useStep cel slo op A b).2.2.2.length = b.2.2.length := by
 unfold useStep
 repeat' split
 all_goals simp
theorem dayRun_step (cel slo : Int) (code : List S113) (k : Nat) (b : BL) (hk : k < code.length) : dayRun cel slo code (code.length - k) k b = if (dayStep cel slo code.length k (code.getD k z113) b).1 = true then dayRun cel slo code (code.length - (k + 1)) (k + 1) (dayStep cel slo code.length k (code.getD k z113) b).2 else (dayStep cel slo code.length k (code.getD k z113) b) := by
 obtain ⟨m, hm⟩ : ∃ m, code.length - k = m + 1 := ⟨code.length - k - 1, by omega⟩
 have hm2 : code.length - (k + 1) = m := by omega
 rw [hm, hm2]
 rfl
theorem day_calls (u g1 g2 g3 : Nat) (b : BL) (v0 v1 v2 v3 : Value) (cel slo : Int) (v6 v7 : Value) (A : Option Addr) (c : Nat) (code : List S113) (w0 w : World) (hw0 : Fr w0 w []) (hC : Kd.C k113 w0 A code.length code) (hc : code.length ≤ c) (hU : Uses w u g1 g2 g3 b.1 b.2.1 b.2.2) (hg : w0.heap.size ≤ g1 ∧ w0.heap.size ≤ g2 ∧ w0.heap.size ≤ g3) (G : TabW w0) (hb1 : b.1.length ≤ 1000000) (hb2 : b.2.1.length ≤ 1000000) (hb3 : b.2.2.length ≤ 1000000) :
  Calls Tryz.prog 58 #[.pointer (some ⟨u, 0, none⟩), .agg #[v0, v1, v2, v3, .int .i64 cel, .int .i64 slo, v6, v7], .slice A code.length c] w (UsePost w u g1 g2 g3 (dayU cel slo code b)) := by
 have hl63 := Kd.C_max hC
 have HC := AsM hC
 have HU := AsM hU
 have HW0 := AsM hw0
 have HG := AsM G
 have HGG := AsM hg
 clear hC hU hw0 G hg
 by_cases h2 : code.length < 2
 ·have n1 : decide ((code.length : Int) - 1 < 1) = true := by simp; omega
  rw [show dayU cel slo code b = (false, b) by unfold dayU; rw [if_pos h2]]
  go_enter Tryz.func58, Tryz.ntmps58
  go_wp2
  go_ret
  exact ⟨rfl, FQ, HU.out.fr FQ⟩
 have n1 : decide ((code.length : Int) - 1 < 1) = false := by simp; omega
 rw [show dayU cel slo code b = dayRun cel slo code code.length 0 b by unfold dayU; rw [if_neg h2]]
 go_enter Tryz.func58, Tryz.ntmps58
 go_wp2
 generalize hL : (code.length : Int) - 1 = L
 have HL := AsM hL
 clear hL n1
 go_loopg [17] code.length (fun kq x wr => ∃ (k : Nat) (b' : BL), x = .int .i64 k ∧ k ≤ code.length ∧ Aside0 (code.length - k ≤ kq) ∧ Aside0 (Fr w wr [g1, g2, g3]) ∧ Aside0 (wr.heap[w.heap.size]? = some (.cells #[v0, v1, v2, v3, .int .i64 cel, .int .i64 slo, v6, v7] 26 (0, 0))) ∧ Aside0 (Uses wr u g1 g2 g3 b'.1 b'.2.1 b'.2.2) ∧ Aside0 (b'.1.length = b.1.length ∧ b'.2.1.length = b.2.1.length ∧ b'.2.2.length = b.2.2.length) ∧ Aside0 (dayRun cel slo code code.length 0 b = dayRun cel slo code (code.length - k) k b'))
 case atStart => exact ⟨0, b, rfl, Nat.zero_le _, ⟨Nat.le_refl _⟩, ⟨FQ⟩, ⟨blk_newN rfl⟩, ⟨HU.out.fr FQ⟩, ⟨rfl, rfl, rfl⟩, ⟨rfl⟩⟩
 case round =>
  obtain ⟨k, b', rfl, hk, HM, HF, HBX, HU2, HLN, HSP⟩ := hrel
  by_cases hkl : k < code.length
  ·have n3 : decide (k < code.length) = true := by simpa using hkl
   have p0 : (0 : Int) ≤ (k : Int) := by omega
   have p1 : (k : Int) < code.length := by omega
   obtain ⟨ad, rfl, q0, q1, q2⟩ := instr_at HC.out k hkl
   obtain ⟨x, hx⟩ : ∃ x, code.getD k z113 = x := ⟨_, rfl⟩
   rw [hx] at q0 q1 q2
   have HX := AsM hx
   obtain ⟨op, a, bb⟩ := x
   simp only at q0 q1 q2
   have HFw : Aside0 (Fr w0 wr []) := ⟨HW0.out.trans HF.out (fun i hi => .inr (by have := HGG.out; simp at hi; omega))⟩
   have r0 := fr_at q0 HFw.out (by simp)
   have r1 := fr_at q1 HFw.out (by simp)
   have r2 := fr_at q2 HFw.out (by simp)
   have hui := Tryz.underlying113
   have hup := Tryz.underlying26
   have HT := AsM (HG.out.fr0 HFw.out)
   have hcx := blk_cell HBX.out
   have c0 := hcx 0
   have c1 := hcx 1
   have c2 := hcx 2
   have c3 := hcx 3
   have c4 := hcx 4
   have c5 := hcx 5
   have c6 := hcx 6
   have c7 := hcx 7
   have hbl := blk_lt HBX.out
   clear q0 q1 q2 hx hcx
   obtain ⟨V, hV⟩ : ∃ V, validC op a bb = V := ⟨_, rfl⟩
   have HV : Aside0 (∀ W, TabW W → Calls Tryz.prog 92 #[.agg #[.int .i64 op, .int .i64 a, .int .i64 bb]] W fun e w' => e = .returned (.int .i64 V) ∧ Fr W w' []) := ⟨fun W hW => hV ▸ valid_calls op a bb W hW⟩
   by_cases hv0 : V = 0
   case neg =>
    have e1 : (V == 0) = false := by simpa using hv0
    have e2 : (V != 0) = true := by simpa using hv0
    have HVV := AsM hV
    have HV0 := AsM hv0
    clear hV hv0
    go_wp2_with (first | (go_at_call 92; (refine (HV.out _ (HT.out.fr0 FQ)).mono ?_); rintro e W1 ⟨rfl, hF1⟩; have HF1 := AsM hF1; clear hF1))
    have hds : dayStep cel slo code.length k ⟨op, a, bb⟩ b' = (false, b') := by
     unfold dayStep; rw [if_pos (by simp only; rw [HVV.out]; exact HV0.out)]
    have hd := HSP.out.trans ((dayRun_step cel slo code k b' hkl).trans (by rw [HX.out, hds] <;> rfl))
    rw [hd]
    go_ret
    exact ⟨rfl, (HF.out.trans (M := []) (Fr.trans (M := []) FQ HF1.out (by simp)) (by simp)), HU2.out.fr (Fr.trans (M := []) FQ HF1.out (by simp))⟩
   case pos =>
    subst hv0
    have HVV := AsM hV
    have HA0 : Aside0 (0 ≤ a) := ⟨by unfold validC at hV; split at hV; (rename_i h9; exact h9.2.2.1); (exact absurd hV (by decide))⟩
    clear hV
    by_cases hop : op = 0
    ·subst hop
     by_cases hkL : (k : Int) = L
     ·have hkn : k + 1 = code.length := by have := HL.out; omega
      subst hkL
      obtain ⟨R, hR⟩ : ∃ R, useStep cel slo 0 a b' = R := ⟨_, rfl⟩
      obtain ⟨rb, b2⟩ := R
      have HRR := AsM hR
      have HUC : Aside0 (∀ W, Uses W u g1 g2 g3 b'.1 b'.2.1 b'.2.2 → Calls Tryz.prog 93 #[.pointer (some ⟨u, 0, none⟩), .agg #[v0, v1, v2, v3, .int .i64 cel, .int .i64 slo, v6, v7], .agg #[.int .i64 0, .int .i64 a, .int .i64 bb]] W (UsePost W u g1 g2 g3 (rb, b2))) := ⟨fun W hW => by
       have h9 := use_calls u g1 g2 g3 b'.1 b'.2.1 b'.2.2 v0 v1 v2 v3 cel slo v6 v7 0 a bb W hW HA0.out (by have := HLN.out; omega) (by have := HLN.out; omega) (by have := HLN.out; omega)
       rw [show useStep cel slo 0 a (b'.1, b'.2.1, b'.2.2) = (rb, b2) from HRR.out] at h9
       exact h9⟩
      have hds : dayStep cel slo code.length k ⟨0, a, bb⟩ b' = (rb, b2) := by
       unfold dayStep; rw [if_neg (by simpa using HVV.out), if_neg (by simp [hkn])]; exact HRR.out
      have HDS := AsM hds
      clear hR hds
      cases rb
      ·go_wp2_with (first | (go_at_call 92; (refine (HV.out _ (HT.out.fr0 FQ)).mono ?_); rintro e W1 ⟨rfl, hF1⟩; have HF1 : Aside0 (Fr wr W1 []) := ⟨Fr.trans (M := []) FQ hF1 (by simp)⟩; have HB1 := AsM (hF1.blk (g := wr.heap.size) (blk_newN rfl) (by simp)); obtain ⟨k0, k1, k2⟩ := cc3 HB1.out; have HBX1 := AsM (HF1.out.blk HBX.out (by simp)); obtain ⟨d0, d1, d2, d3, d4, d5, d6, d7⟩ := cc8 HBX1.out; clear hF1) | (go_at_call 93; (refine (HUC.out _ (HU2.out.fr HF1.out)).mono ?_); rintro e W2 ⟨rfl, hF2, hU3⟩; have HF2 := AsM hF2; have HU3 := AsM hU3; clear hF2 hU3))
       have hd := HSP.out.trans ((dayRun_step cel slo code k b' hkl).trans (by rw [HX.out, HDS.out] <;> rfl))
       rw [hd]
       go_ret
       exact ⟨rfl, (HF.out.trans HF1.out (by simp)).trans HF2.out (fun i hi => .inl hi), HU3.out⟩
      ·go_wp2_with (first | (go_at_call 92; (refine (HV.out _ (HT.out.fr0 FQ)).mono ?_); rintro e W1 ⟨rfl, hF1⟩; have HF1 : Aside0 (Fr wr W1 []) := ⟨Fr.trans (M := []) FQ hF1 (by simp)⟩; have HB1 := AsM (hF1.blk (g := wr.heap.size) (blk_newN rfl) (by simp)); obtain ⟨k0, k1, k2⟩ := cc3 HB1.out; have HBX1 := AsM (HF1.out.blk HBX.out (by simp)); obtain ⟨d0, d1, d2, d3, d4, d5, d6, d7⟩ := cc8 HBX1.out; clear hF1) | (go_at_call 93; (refine (HUC.out _ (HU2.out.fr HF1.out)).mono ?_); rintro e W2 ⟨rfl, hF2, hU3⟩; have HF2 := AsM hF2; have HU3 := AsM hU3; clear hF2 hU3))
       go_roundg (code.length - (k + 1))
       case measure => have := HM.out; omega
       case rel =>
        have hln := useStep_len cel slo 0 a b'
        rw [HRR.out] at hln
        have hdd := dayRun_step cel slo code k b' hkl
        rw [HX.out, HDS.out, if_pos rfl] at hdd
        exact ⟨k + 1, b2, by go_num, by omega, ⟨Nat.le_refl _⟩, ⟨(HF.out.trans HF1.out (by simp)).trans HF2.out (fun i hi => .inl hi)⟩, ⟨HF2.out.blk HBX1.out (by have h7 := blk_lt HU.out.n1; have h8 := blk_lt HU.out.n2; have h9 := blk_lt HU.out.n3; simp; omega)⟩, HU3, ⟨⟨hln.1.trans HLN.out.1, hln.2.1.trans HLN.out.2.1, hln.2.2.trans HLN.out.2.2⟩⟩, ⟨HSP.out.trans hdd⟩⟩
     ·have hkn : k + 1 ≠ code.length := by have := HL.out; omega
      have e1 : ((k : Int) == L) = false := by simpa using hkL
      go_wp2_with (first | (go_at_call 92; (refine (HV.out _ (HT.out.fr0 FQ)).mono ?_); rintro e W1 ⟨rfl, hF1⟩; have HF1 : Aside0 (Fr wr W1 []) := ⟨Fr.trans (M := []) FQ hF1 (by simp)⟩; have HB1 := AsM (hF1.blk (g := wr.heap.size) (blk_newN rfl) (by simp)); obtain ⟨k0, k1, k2⟩ := cc3 HB1.out; have HBX1 := AsM (HF1.out.blk HBX.out (by simp)); obtain ⟨d0, d1, d2, d3, d4, d5, d6, d7⟩ := cc8 HBX1.out; clear hF1) | (go_at_call 93; (refine (HUC.out _ (HU2.out.fr HF1.out)).mono ?_); rintro e W2 ⟨rfl, hF2, hU3⟩; have HF2 := AsM hF2; have HU3 := AsM hU3; clear hF2 hU3))
      have hds : dayStep cel slo code.length k ⟨0, a, bb⟩ b' = (false, b') := by
       unfold dayStep; rw [if_neg (by simpa using HVV.out), if_pos (by simp [hkn])]
      have hd := HSP.out.trans ((dayRun_step cel slo code k b' hkl).trans (by rw [HX.out, hds] <;> rfl))
      rw [hd]
      go_ret
      exact ⟨rfl, (HF.out.trans HF1.out (by simp)), HU2.out.fr HF1.out⟩
    ·have e0 : (op == 0) = false := by simpa using hop
     by_cases hkL : (k : Int) = L
     ·have hkn : k + 1 = code.length := by have := HL.out; omega
      subst hkL
      go_wp2_with (first | (go_at_call 92; (refine (HV.out _ (HT.out.fr0 FQ)).mono ?_); rintro e W1 ⟨rfl, hF1⟩; have HF1 : Aside0 (Fr wr W1 []) := ⟨Fr.trans (M := []) FQ hF1 (by simp)⟩; have HB1 := AsM (hF1.blk (g := wr.heap.size) (blk_newN rfl) (by simp)); obtain ⟨k0, k1, k2⟩ := cc3 HB1.out; have HBX1 := AsM (HF1.out.blk HBX.out (by simp)); obtain ⟨d0, d1, d2, d3, d4, d5, d6, d7⟩ := cc8 HBX1.out; clear hF1) | (go_at_call 93; (refine (HUC.out _ (HU2.out.fr HF1.out)).mono ?_); rintro e W2 ⟨rfl, hF2, hU3⟩; have HF2 := AsM hF2; have HU3 := AsM hU3; clear hF2 hU3))
      have hds : dayStep cel slo code.length k ⟨op, a, bb⟩ b' = (false, b') := by
       unfold dayStep; rw [if_neg (by simpa using HVV.out), if_pos (by simp [hkn, hop])]
      have hd := HSP.out.trans ((dayRun_step cel slo code k b' hkl).trans (by rw [HX.out, hds] <;> rfl))
      rw [hd]
      go_ret
      exact ⟨rfl, (HF.out.trans HF1.out (by simp)), HU2.out.fr HF1.out⟩
     ·have hkn : k + 1 ≠ code.length := by have := HL.out; omega
      have e1 : ((k : Int) == L) = false := by simpa using hkL
      obtain ⟨R, hR⟩ : ∃ R, useStep cel slo op a b' = R := ⟨_, rfl⟩
      obtain ⟨rb, b2⟩ := R
      have HRR := AsM hR
      have HUC : Aside0 (∀ W, Uses W u g1 g2 g3 b'.1 b'.2.1 b'.2.2 → Calls Tryz.prog 93 #[.pointer (some ⟨u, 0, none⟩), .agg #[v0, v1, v2, v3, .int .i64 cel, .int .i64 slo, v6, v7], .agg #[.int .i64 op, .int .i64 a, .int .i64 bb]] W (UsePost W u g1 g2 g3 (rb, b2))) := ⟨fun W hW => by
       have h9 := use_calls u g1 g2 g3 b'.1 b'.2.1 b'.2.2 v0 v1 v2 v3 cel slo v6 v7 op a bb W hW HA0.out (by have := HLN.out; omega) (by have := HLN.out; omega) (by have := HLN.out; omega)
       rw [show useStep cel slo op a (b'.1, b'.2.1, b'.2.2) = (rb, b2) from HRR.out] at h9
       exact h9⟩
      have hds : dayStep cel slo code.length k ⟨op, a, bb⟩ b' = (rb, b2) := by
       unfold dayStep; rw [if_neg (by simpa using HVV.out), if_neg (by simp [hkn, hop])]; exact HRR.out
      have HDS := AsM hds
      clear hR hds
      cases rb
      ·go_wp2_with (first | (go_at_call 92; (refine (HV.out _ (HT.out.fr0 FQ)).mono ?_); rintro e W1 ⟨rfl, hF1⟩; have HF1 : Aside0 (Fr wr W1 []) := ⟨Fr.trans (M := []) FQ hF1 (by simp)⟩; have HB1 := AsM (hF1.blk (g := wr.heap.size) (blk_newN rfl) (by simp)); obtain ⟨k0, k1, k2⟩ := cc3 HB1.out; have HBX1 := AsM (HF1.out.blk HBX.out (by simp)); obtain ⟨d0, d1, d2, d3, d4, d5, d6, d7⟩ := cc8 HBX1.out; clear hF1) | (go_at_call 93; (refine (HUC.out _ (HU2.out.fr HF1.out)).mono ?_); rintro e W2 ⟨rfl, hF2, hU3⟩; have HF2 := AsM hF2; have HU3 := AsM hU3; clear hF2 hU3))
       have hd := HSP.out.trans ((dayRun_step cel slo code k b' hkl).trans (by rw [HX.out, HDS.out] <;> rfl))
       rw [hd]
       go_ret
       exact ⟨rfl, (HF.out.trans HF1.out (by simp)).trans HF2.out (fun i hi => .inl hi), HU3.out⟩
      ·go_wp2_with (first | (go_at_call 92; (refine (HV.out _ (HT.out.fr0 FQ)).mono ?_); rintro e W1 ⟨rfl, hF1⟩; have HF1 : Aside0 (Fr wr W1 []) := ⟨Fr.trans (M := []) FQ hF1 (by simp)⟩; have HB1 := AsM (hF1.blk (g := wr.heap.size) (blk_newN rfl) (by simp)); obtain ⟨k0, k1, k2⟩ := cc3 HB1.out; have HBX1 := AsM (HF1.out.blk HBX.out (by simp)); obtain ⟨d0, d1, d2, d3, d4, d5, d6, d7⟩ := cc8 HBX1.out; clear hF1) | (go_at_call 93; (refine (HUC.out _ (HU2.out.fr HF1.out)).mono ?_); rintro e W2 ⟨rfl, hF2, hU3⟩; have HF2 := AsM hF2; have HU3 := AsM hU3; clear hF2 hU3))
       go_roundg (code.length - (k + 1))
       case measure => have := HM.out; omega
       case rel =>
        have hln := useStep_len cel slo op a b'
        rw [HRR.out] at hln
        have hdd := dayRun_step cel slo code k b' hkl
        rw [HX.out, HDS.out, if_pos rfl] at hdd
        exact ⟨k + 1, b2, by go_num, by omega, ⟨Nat.le_refl _⟩, ⟨(HF.out.trans HF1.out (by simp)).trans HF2.out (fun i hi => .inl hi)⟩, ⟨HF2.out.blk HBX1.out (by have h7 := blk_lt HU.out.n1; have h8 := blk_lt HU.out.n2; have h9 := blk_lt HU.out.n3; simp; omega)⟩, HU3, ⟨⟨hln.1.trans HLN.out.1, hln.2.1.trans HLN.out.2.1, hln.2.2.trans HLN.out.2.2⟩⟩, ⟨HSP.out.trans hdd⟩⟩
  ·obtain rfl : k = code.length := by omega
   have n3 : decide (code.length < code.length) = false := by simp
   have HD : Aside0 (dayRun cel slo code code.length 0 b = (true, b')) := ⟨by rw [HSP.out, Nat.sub_self]; rfl⟩
   go_wp2
   rw [HD.out]
   go_ret
   exact ⟨rfl, HF.out, HU2.out⟩
theorem indexB_calls (g : Nat) (l : List Bool) (w : World) (hg : w.heap[g]? = some (.cells (bcells l) 4 (0, 0))) (hl : l.length ≤ 1000000) :
  Calls Tryz.prog 94 #[.slice (some ⟨g, 0, none⟩) l.length l.length, .bool false] w fun e w' => (∃ i : Int, e = .returned (.int .i64 i) ∧ (0 ≤ i ↔ l.contains false = true)) ∧ Drawn0 w w' := by
 have HGB := AsM hg
 clear hg
 go_enter Tryz.func94, Tryz.ntmps94
 go_wp2
 go_loopg [8] l.length (fun kq x wr => ∃ k : Nat, x = .int .i64 k ∧ k ≤ l.length ∧ Aside0 (l.length - k ≤ kq) ∧ Drawn0 w wr ∧ Aside0 ((l.take k).contains false = false))
 case atStart => exact ⟨0, rfl, Nat.zero_le _, ⟨Nat.le_refl _⟩, DQ, ⟨rfl⟩⟩
 case round =>
  obtain ⟨k, rfl, hk, HM, ⟨nk, rfl⟩, HA⟩ := hrel
  by_cases hkl : k < l.length
  ·have n3 : decide (k < l.length) = true := by simpa using hkl
   have p0 : (0 : Int) ≤ (k : Int) := by omega
   have p1 : (k : Int) < l.length := by omega
   obtain ⟨x, hx⟩ : ∃ x, l.getD k false = x := ⟨_, rfl⟩
   have h1 : w.cell? ⟨g, k, none⟩ = some (.bool x) := by rw [blk_cell HGB.out k, bcells_get l k hkl, hx]
   have hxm : l[k]? = some x := by rw [List.getD_eq_getElem?_getD, List.getElem?_eq_getElem hkl] at hx; rw [List.getElem?_eq_getElem hkl]; simpa using hx
   have HX := AsM hxm
   clear hx hxm
   cases x
   ·go_wp2
    go_ret
    exact ⟨⟨k, rfl, iff_of_true p0 (by simpa using List.mem_of_getElem? HX.out)⟩, DQ⟩
   ·go_wp2
    go_roundg (l.length - (k + 1))
    case measure => have := HM.out; omega
    case rel =>
     refine ⟨k + 1, by go_num, by omega, ⟨Nat.le_refl _⟩, DQ, ⟨?_⟩⟩
     have ha := HA.out
     rw [List.take_add_one, HX.out]
     simp at ha ⊢
     exact ha
  ·obtain rfl : k = l.length := by omega
   have n3 : decide (l.length < l.length) = false := by simp
   have ha := HA.out
   rw [List.take_length] at ha
   have HA2 := AsM ha
   clear ha HA
   go_wp2
   go_ret
   exact ⟨⟨-1, rfl, iff_of_false (by decide) (by rw [HA2.out]; decide)⟩, DQ⟩
theorem containsB_calls (g : Nat) (l : List Bool) (w : World) (hg : w.heap[g]? = some (.cells (bcells l) 4 (0, 0))) (hl : l.length ≤ 1000000) (b : Bool) (hb : l.contains false = b) :
  Calls Tryz.prog 59 #[.slice (some ⟨g, 0, none⟩) l.length l.length, .bool false] w fun e w' => e = .returned (.bool b) ∧ Drawn0 w w' := by
 have HI := AsM (indexB_calls g l w hg hl)
 have HB := AsM hb
 clear hg hb
 go_enter Tryz.func59, Tryz.ntmps59
 go_wp2_with (first | (go_at_call 94; (refine (HI.out).mono ?_); rintro e w' ⟨⟨i, rfl, hi⟩, ⟨nd, rfl⟩⟩; have HIF := AsM hi; clear hi))
 go_ret
 refine ⟨?_, DQ⟩
 have h1 := HIF.out
 rw [HB.out] at h1
 cases b
 ·have h2 : decide (0 ≤ i) = false := by simpa using h1
  simp [h2]
 ·have h2 : decide (0 ≤ i) = true := by simpa using h1
  simp [h2]
def canonDays (hor cel slo : Int) : List S54 → Int → Int → BL → Option BL
 | [], _, _, b => some b
 | s :: rest, cnt, last, b => if s.f0 ≤ last then none else if hor < s.f0 then none else if 262144 < cnt + s.f1.length then none else if (dayU cel slo s.f1 b).1 = false then none else canonDays hor cel slo rest (cnt + s.f1.length) s.f0 (dayU cel slo s.f1 b).2
def bl0 (names curs : List ByteArray) (pool : List Int) : BL := (List.replicate names.length false, List.replicate curs.length false, List.replicate pool.length false)
def canonP (names curs : List ByteArray) (pool : List Int) (hor cel slo sta : Int) (days : List S54) : Int :=
 if listsB names curs pool hor cel slo sta = false then 121 else
 match canonDays hor cel slo days 0 (-1) (bl0 names curs pool) with
 | none => 121
 | some b => if b.1.contains false = true then 121 else if b.2.1.contains false = true then 121 else if b.2.2.contains false = true then 121 else 0
theorem dayU_len (cel slo : Int) (code : List S113) (b : BL) : (dayU cel slo code b).2.1.length = b.1.length ∧ (dayU cel slo code b).2.2.1.length = b.2.1.length ∧ (dayU cel slo code b).2.2.2.length = b.2.2.length := by
 unfold dayU
 split
 ·exact ⟨rfl, rfl, rfl⟩
 ·have hs : ∀ k (b : BL), (dayStep cel slo code.length k (code.getD k z113) b).2.1.length = b.1.length ∧ (dayStep cel slo code.length k (code.getD k z113) b).2.2.1.length = b.2.1.length ∧ (dayStep cel slo code.length k (code.getD k z113) b).2.2.2.length = b.2.2.length := by
   intro k b
   unfold dayStep
   split
   ·exact ⟨rfl, rfl, rfl⟩
   split
   ·exact ⟨rfl, rfl, rfl⟩
   ·exact useStep_len cel slo _ _ b
  have h : ∀ m k (b : BL), (dayRun cel slo code m k b).2.1.length = b.1.length ∧ (dayRun cel slo code m k b).2.2.1.length = b.2.1.length ∧ (dayRun cel slo code m k b).2.2.2.length = b.2.2.length := by
   intro m
   induction m with
   | zero => intro k b; exact ⟨rfl, rfl, rfl⟩
   | succ m ih =>
    intro k b
    unfold dayRun
    have h1 := hs k b
    split
    ·have h2 := ih (k + 1) (dayStep cel slo code.length k (code.getD k z113) b).2
     exact ⟨h2.1.trans h1.1, h2.2.1.trans h1.2.1, h2.2.2.trans h1.2.2⟩
    ·exact h1
  exact h _ _ _
theorem infoB : (Tryz.prog.info? 4).map (fun i => (i.zero, i.size, i.bytes)) = some (some (.bool false), 1, 1) := by kernel_rfl
theorem mk_run (n : Nat) (hn : n ≤ 1000000) (W : World) : (Instr.makeSlice 124 (.int .i64 n) (.int .i64 n)).run Tryz.prog W = .ok (.slice (some ⟨W.heap.size, 0, none⟩) n n) (W.alloc (.cells (bcells (List.replicate n false)) 4)) := by
 obtain ⟨i0, hi0, hz0, hz1, hz2⟩ := info_parts infoB
 have hr := run_make (P := Tryz.prog) W 124 4 i0 (.bool false) Tryz.underlying124 hi0 hz0 .i64 .i64 (n : Int) (n : Int) (by omega) (by omega) (by rw [hz2]; omega) (by omega)
 simp only [Int.toNat_natCast, hz1, Nat.mul_one] at hr
 have hm : madeCells (Value.bool false).cells n = bcells (List.replicate n false) := by
  apply Array.ext
  ·simp [madeCells, bcells]
  ·intro i h1 h2
   simp [madeCells, bcells, Value.cells, Nat.mod_one]
 rw [hm] at hr
 exact hr
def CanonPost (r : Int) (w : World) (e : Ending) (w' : World) : Prop := e = .returned (.int .i64 r) ∧ Fr w w' []
theorem canon_end {r x : Int} {w W : World} (h : r = x) (hf : Fr w W []) : CanonPost r w (.returned (.int .i64 x)) W := ⟨by rw [h], hf⟩
theorem canon_none {names curs : List ByteArray} {pool : List Int} {hor cel slo sta : Int} {days : List S54} {d : Nat} {cnt last : Int} {b : BL} {s : S54} {rest : List S54} (hl : listsB names curs pool hor cel slo sta = true) (h : canonDays hor cel slo days 0 (-1) (bl0 names curs pool) = canonDays hor cel slo (days.drop d) cnt last b) (hd : days.drop d = s :: rest) (hn : canonDays hor cel slo (s :: rest) cnt last b = none) : canonP names curs pool hor cel slo sta days = 121 := by
 unfold canonP
 rw [if_neg (by rw [hl]; decide), h, hd, hn]
theorem three (W : World) (X Y Z T : Obj) : ((((W.alloc X).alloc Y).alloc Z).alloc T).drew.heap[W.heap.size]? = some X ∧ ((((W.alloc X).alloc Y).alloc Z).alloc T).drew.heap[W.heap.size + 1]? = some Y ∧ ((((W.alloc X).alloc Y).alloc Z).alloc T).drew.heap[W.heap.size + 1 + 1]? = some Z ∧ ((((W.alloc X).alloc Y).alloc Z).alloc T).drew.heap[W.heap.size + 1 + 1 + 1]? = some T :=
 ⟨blk_drew (blk_alloc (blk_alloc (blk_alloc (blk_newN rfl) _) _) _), blk_drew (blk_alloc (blk_alloc (blk_newN (by simp)) _) _), blk_drew (blk_alloc (blk_newN (by simp)) _), blk_drew (blk_newN (by simp))⟩
theorem canon_calls (A0 : Option Addr) (c0 : Nat) (names : List ByteArray) (A1 : Option Addr) (c1 : Nat) (curs : List ByteArray) (A2 : Option Addr) (c2 : Nat) (pool : List Int) (hor cel slo sta : Int) (A7 : Option Addr) (c7 : Nat) (days : List S54) (w : World) (hr0 : Kd.C Kd.string w A0 names.length names) (hc0 : names.length ≤ c0) (hr1 : Kd.C Kd.string w A1 curs.length curs) (hc1 : curs.length ≤ c1) (hr2 : Kd.C (Kd.int .i64) w A2 pool.length pool) (hc2 : pool.length ≤ c2) (hr7 : Kd.C k54 w A7 days.length days) (hc7 : days.length ≤ c7) (hpl : pool.length ≤ 100000000000000) (hdl : ∀ s ∈ days, s.f1.length ≤ 10000000000000) (G : TabW w) :
  Calls Tryz.prog 38 #[.agg #[.slice A0 names.length c0, .slice A1 curs.length c1, .slice A2 pool.length c2, .int .i64 hor, .int .i64 cel, .int .i64 slo, .int .i64 sta, .slice A7 days.length c7]] w (CanonPost (canonP names curs pool hor cel slo sta days) w) := by
 obtain ⟨bL, hL⟩ : ∃ b, listsB names curs pool hor cel slo sta = b := ⟨_, rfl⟩
 have LC : Aside0 (∀ W, Fr w W [] → Calls Tryz.prog 57 #[.agg #[.slice A0 names.length c0, .slice A1 curs.length c1, .slice A2 pool.length c2, .int .i64 hor, .int .i64 cel, .int .i64 slo, .int .i64 sta, .slice A7 days.length c7]] W fun e w' => e = .returned (.bool bL) ∧ Fr W w' []) := ⟨fun W h => hL ▸ lists_calls A0 c0 names A1 c1 curs A2 c2 pool hor cel slo sta _ W (Kd.C_below hr0 h.below) hc0 (Kd.C_below hr1 h.below) hc1 (Kd.C_below hr2 h.below) hc2 hpl⟩
 have HC7 := AsM hr7
 have hd63 := Kd.C_max hr7
 have HG := AsM G
 have HDL := AsM hdl
 clear hr0 hr1 hr2 hr7 G hdl
 have HLB := AsM hL
 clear hL
 cases bL
 ·have HCP : Aside0 (canonP names curs pool hor cel slo sta days = 121) := ⟨by unfold canonP; rw [if_pos HLB.out]⟩
  rw [HCP.out]
  go_enter Tryz.func38, Tryz.ntmps38
  go_wp2_with (first | (go_at_call 57; (with_reducible refine (LC.out _ ?_).mono ?_); (next => exact FQ); rintro e W1 ⟨rfl, hF1⟩))
  go_ret
  exact ⟨rfl, Fr.trans (M := []) FQ hF1 (by simp)⟩
 have hlens : names.length ≤ 64 ∧ curs.length ≤ 4096 ∧ pool.length ≤ 16384 := by
  have h := HLB.out
  unfold listsB at h
  simp only [Bool.and_eq_true, Bool.not_eq_true', decide_eq_false_iff_not] at h
  omega
 obtain ⟨hl1, hl2, hl3⟩ := hlens
 go_enter Tryz.func38, Tryz.ntmps38
 go_upto_region 3 with (first | (go_at_call 57; (with_reducible refine (LC.out _ ?_).mono ?_); (next => exact FQ); rintro e W1 ⟨rfl, hF1⟩; have HB1 := AsM (hF1.blk (g := w.heap.size) (blk_newN rfl) (by simp)); have HF1 : Aside0 (Fr w W1 []) := ⟨Fr.trans (M := []) FQ hF1 (by simp)⟩; clear hF1))
 go_cut [3] (fun x wx => ∃ u g1 g2 g3 : Nat, x = .pointer (some ⟨u, 0, none⟩) ∧ Aside0 (Fr w wx []) ∧ Aside0 (wx.heap[w.heap.size]? = some (.cells #[.slice A0 names.length c0, .slice A1 curs.length c1, .slice A2 pool.length c2, .int .i64 hor, .int .i64 cel, .int .i64 slo, .int .i64 sta, .slice A7 days.length c7] 26 (0, 0))) ∧ Aside0 (Uses wx u g1 g2 g3 (bl0 names curs pool).1 (bl0 names curs pool).2.1 (bl0 names curs pool).2.2) ∧ w.heap.size < g1 ∧ w.heap.size < g2 ∧ w.heap.size < g3)
 case first =>
  have mk1 := mk_run names.length (by omega)
  have mk2 := mk_run curs.length (by omega)
  have mk3 := mk_run pool.length (by omega)
  have hb0 : W1.cell? ⟨w.heap.size, 0, none⟩ = some (.slice A0 names.length c0) := blk_cell HB1.out 0
  have hb1 : W1.cell? ⟨w.heap.size, 1, none⟩ = some (.slice A1 curs.length c1) := blk_cell HB1.out 1
  have hb2 : W1.cell? ⟨w.heap.size, 2, none⟩ = some (.slice A2 pool.length c2) := blk_cell HB1.out 2
  have hbl := blk_lt HB1.out
  go_region_held3 (fun w' => w'.cell? ⟨w.heap.size, 0, none⟩ = some (.slice A0 names.length c0) ∧ w'.cell? ⟨w.heap.size, 1, none⟩ = some (.slice A1 curs.length c1) ∧ w'.cell? ⟨w.heap.size, 2, none⟩ = some (.slice A2 pool.length c2)) (first | (refine ⟨fr_at (L := []) hb0 ?_ List.not_mem_nil, fr_at (L := []) hb1 ?_ List.not_mem_nil, fr_at (L := []) hb2 ?_ List.not_mem_nil⟩ <;> exact FQ) | go_keep) (fail)
  ·clear mk1 mk2 mk3
   go_wp2
   go_meet
   exact ⟨W1.heap.size + 1 + 1 + 1, W1.heap.size, W1.heap.size + 1, W1.heap.size + 1 + 1, rfl, ⟨FX HF1.out⟩, ⟨by (repeat (first | exact HB1.out | apply blk_drew | apply blk_alloc))⟩, ⟨⟨by simp only [bl0, List.length_replicate]; exact (three _ _ _ _ _).2.2.2, (three _ _ _ _ _).1, (three _ _ _ _ _).2.1, (three _ _ _ _ _).2.2.1, by omega, by omega, by omega⟩⟩, by omega, by omega, by omega⟩
  ·clear mk1 mk2 mk3
   go_wp2
   go_meet
   exact ⟨W1.heap.size + 1 + 1 + 1, W1.heap.size, W1.heap.size + 1 + 1, W1.heap.size + 1, rfl, ⟨FX HF1.out⟩, ⟨by (repeat (first | exact HB1.out | apply blk_drew | apply blk_alloc))⟩, ⟨⟨by simp only [bl0, List.length_replicate]; exact (three _ _ _ _ _).2.2.2, (three _ _ _ _ _).1, (three _ _ _ _ _).2.2.1, (three _ _ _ _ _).2.1, by omega, by omega, by omega⟩⟩, by omega, by omega, by omega⟩
  ·clear mk1 mk2 mk3
   go_wp2
   go_meet
   exact ⟨W1.heap.size + 1 + 1 + 1, W1.heap.size + 1, W1.heap.size, W1.heap.size + 1 + 1, rfl, ⟨FX HF1.out⟩, ⟨by (repeat (first | exact HB1.out | apply blk_drew | apply blk_alloc))⟩, ⟨⟨by simp only [bl0, List.length_replicate]; exact (three _ _ _ _ _).2.2.2, (three _ _ _ _ _).2.1, (three _ _ _ _ _).1, (three _ _ _ _ _).2.2.1, by omega, by omega, by omega⟩⟩, by omega, by omega, by omega⟩
  ·clear mk1 mk2 mk3
   go_wp2
   go_meet
   exact ⟨W1.heap.size + 1 + 1 + 1, W1.heap.size + 1 + 1, W1.heap.size, W1.heap.size + 1, rfl, ⟨FX HF1.out⟩, ⟨by (repeat (first | exact HB1.out | apply blk_drew | apply blk_alloc))⟩, ⟨⟨by simp only [bl0, List.length_replicate]; exact (three _ _ _ _ _).2.2.2, (three _ _ _ _ _).2.2.1, (three _ _ _ _ _).1, (three _ _ _ _ _).2.1, by omega, by omega, by omega⟩⟩, by omega, by omega, by omega⟩
  ·clear mk1 mk2 mk3
   go_wp2
   go_meet
   exact ⟨W1.heap.size + 1 + 1 + 1, W1.heap.size + 1, W1.heap.size + 1 + 1, W1.heap.size, rfl, ⟨FX HF1.out⟩, ⟨by (repeat (first | exact HB1.out | apply blk_drew | apply blk_alloc))⟩, ⟨⟨by simp only [bl0, List.length_replicate]; exact (three _ _ _ _ _).2.2.2, (three _ _ _ _ _).2.1, (three _ _ _ _ _).2.2.1, (three _ _ _ _ _).1, by omega, by omega, by omega⟩⟩, by omega, by omega, by omega⟩
  ·clear mk1 mk2 mk3
   go_wp2
   go_meet
   exact ⟨W1.heap.size + 1 + 1 + 1, W1.heap.size + 1 + 1, W1.heap.size + 1, W1.heap.size, rfl, ⟨FX HF1.out⟩, ⟨by (repeat (first | exact HB1.out | apply blk_drew | apply blk_alloc))⟩, ⟨⟨by simp only [bl0, List.length_replicate]; exact (three _ _ _ _ _).2.2.2, (three _ _ _ _ _).2.2.1, (three _ _ _ _ _).2.1, (three _ _ _ _ _).1, by omega, by omega, by omega⟩⟩, by omega, by omega, by omega⟩
 case rest =>
 obtain ⟨u, g1, g2, g3, rfl, HFc, HBc, HUc, hg1, hg2, hg3⟩ := hcut
 have HGE : Aside0 (w.heap.size ≤ g1 ∧ w.heap.size ≤ g2 ∧ w.heap.size ≤ g3) := ⟨by omega⟩
 have hbx7 : wc.cell? ⟨w.heap.size, 7, none⟩ = some (.slice A7 days.length c7) := blk_cell HBc.out 7
 go_wp2
 go_loopg [4, 5, 30] days.length (fun kq s4 s5 x wr => ∃ (d : Nat) (cnt last : Int) (b : BL), s4 = .int .i64 cnt ∧ s5 = .int .i64 last ∧ x = .int .i64 d ∧ d ≤ days.length ∧ 0 ≤ cnt ∧ cnt ≤ 262144 ∧ Aside0 (days.length - d ≤ kq) ∧ Aside0 (Fr w wr []) ∧ Aside0 (wr.heap[w.heap.size]? = some (.cells #[.slice A0 names.length c0, .slice A1 curs.length c1, .slice A2 pool.length c2, .int .i64 hor, .int .i64 cel, .int .i64 slo, .int .i64 sta, .slice A7 days.length c7] 26 (0, 0))) ∧ Aside0 (Uses wr u g1 g2 g3 b.1 b.2.1 b.2.2) ∧ Aside0 (b.1.length = names.length ∧ b.2.1.length = curs.length ∧ b.2.2.length = pool.length) ∧ Aside0 (canonDays hor cel slo days 0 (-1) (bl0 names curs pool) = canonDays hor cel slo (days.drop d) cnt last b))
 case atStart => exact ⟨0, 0, -1, bl0 names curs pool, rfl, rfl, rfl, Nat.zero_le _, by omega, by omega, ⟨Nat.le_refl _⟩, HFc, HBc, HUc, ⟨by simp [bl0]⟩, ⟨rfl⟩⟩
 case round =>
  obtain ⟨d, cnt, last, b, rfl, rfl, rfl, hd, hc0', hc1', HM, HF, HB, HU, HLN, HSP⟩ := hrel
  by_cases hdl : d < days.length
  ·have n3 : decide (d < days.length) = true := by simpa using hdl
   have p0 : (0 : Int) ≤ (d : Int) := by omega
   have p1 : (d : Int) < days.length := by omega
   obtain ⟨ad, A8, c8, rfl, h0, h1, hcap, hC1⟩ := day_at HC7.out d hdl
   obtain ⟨sg, hsg⟩ : ∃ sg, days.getD d z54 = sg := ⟨_, rfl⟩
   have HDR : Aside0 (days.drop d = sg :: days.drop (d + 1)) := ⟨by rw [← hsg, List.drop_eq_getElem_cons hdl, List.getD_eq_getElem?_getD, List.getElem?_eq_getElem hdl]; rfl⟩
   have hcl : sg.f1.length ≤ 10000000000000 := HDL.out _ (by rw [← hsg, List.getD_eq_getElem?_getD, List.getElem?_eq_getElem hdl]; exact List.getElem_mem _)
   rw [hsg] at h0 h1 hcap hC1
   obtain ⟨day, code⟩ := sg
   simp only at h0 h1 hcap hC1 hcl
   have q0 := fr_at h0 HF.out (by simp)
   have q1 := fr_at h1 HF.out (by simp)
   have HCC := AsM hC1
   have hb3 : wr.cell? ⟨w.heap.size, 3, none⟩ = some (.int .i64 hor) := blk_cell HB.out 3
   have hbl := blk_lt HB.out
   have hut := Tryz.underlying54
   have hup := Tryz.underlying26
   clear h0 h1 hsg hC1
   by_cases t1 : day ≤ last
   ·have HN := AsM (canon_none HLB.out HSP.out HDR.out (by unfold canonDays; rw [if_pos t1]))
    rw [HN.out]
    go_wp2
    go_ret
    exact ⟨rfl, HF.out.alloc _⟩
   by_cases t2 : hor < day
   ·have HN := AsM (canon_none HLB.out HSP.out HDR.out (by unfold canonDays; rw [if_neg t1, if_pos t2]))
    rw [HN.out]
    go_wp2
    go_ret
    exact ⟨rfl, HF.out.alloc _⟩
   by_cases t3 : 262144 < cnt + code.length
   ·have HN := AsM (canon_none HLB.out HSP.out HDR.out (by unfold canonDays; rw [if_neg t1, if_neg t2, if_pos t3]))
    rw [HN.out]
    go_wp2
    go_ret
    exact ⟨rfl, HF.out.alloc _⟩
   have v0 : wr.cell? ⟨w.heap.size, 0, none⟩ = some (.slice A0 names.length c0) := blk_cell HB.out 0
   have v1 : wr.cell? ⟨w.heap.size, 1, none⟩ = some (.slice A1 curs.length c1) := blk_cell HB.out 1
   have v2 : wr.cell? ⟨w.heap.size, 2, none⟩ = some (.slice A2 pool.length c2) := blk_cell HB.out 2
   have v4 : wr.cell? ⟨w.heap.size, 4, none⟩ = some (.int .i64 cel) := blk_cell HB.out 4
   have v5 : wr.cell? ⟨w.heap.size, 5, none⟩ = some (.int .i64 slo) := blk_cell HB.out 5
   have v6 : wr.cell? ⟨w.heap.size, 6, none⟩ = some (.int .i64 sta) := blk_cell HB.out 6
   have v7 : wr.cell? ⟨w.heap.size, 7, none⟩ = some (.slice (some ad) days.length c7) := blk_cell HB.out 7
   obtain ⟨R, hR⟩ : ∃ R, dayU cel slo code b = R := ⟨_, rfl⟩
   obtain ⟨rb, b2⟩ := R
   have HDU := AsM hR
   have T1 := AsM t1
   have T2 := AsM t2
   have T3 := AsM t3
   clear hR
   cases rb
   ·have HN := AsM (canon_none HLB.out HSP.out HDR.out (by unfold canonDays; rw [if_neg T1.out, if_neg T2.out, if_neg T3.out, HDU.out]; rfl))
    rw [HN.out]
    go_wp2_with (first | (go_at_call 58; (refine (day_calls u g1 g2 g3 b (.slice A0 names.length c0) (.slice A1 curs.length c1) (.slice A2 pool.length c2) (.int .i64 hor) cel slo (.int .i64 sta) (.slice (some ad) days.length c7) A8 c8 code w _ (HF.out.alloc _) HCC.out hcap (HU.out.fr ((Fr.refl _ _).alloc _)) HGE.out HG.out (by have := HLN.out; omega) (by have := HLN.out; omega) (by have := HLN.out; omega)).mono ?_); rw [HDU.out]; rintro e W2 ⟨rfl, hF2, hU3⟩; have HF2 := AsM hF2; have HU3 := AsM hU3; have hszr := HF.out.size; have HSB := AsM (hF2.blk (g := wr.heap.size) (blk_newN rfl) (by have h7 := blk_lt HU.out.n1; have h8 := blk_lt HU.out.n2; have h9 := blk_lt HU.out.n3; simp; omega)); have hsd : W2.cell? ⟨wr.heap.size, 0, none⟩ = some (.int .i64 day) := blk_cell HSB.out 0; clear hF2 hU3))
    go_ret
    exact ⟨rfl, (HF.out.alloc _).trans HF2.out (fun i hi => .inr (by have := HGE.out; simp at hi; omega))⟩
   ·go_wp2_with (first | (go_at_call 58; (refine (day_calls u g1 g2 g3 b (.slice A0 names.length c0) (.slice A1 curs.length c1) (.slice A2 pool.length c2) (.int .i64 hor) cel slo (.int .i64 sta) (.slice (some ad) days.length c7) A8 c8 code w _ (HF.out.alloc _) HCC.out hcap (HU.out.fr ((Fr.refl _ _).alloc _)) HGE.out HG.out (by have := HLN.out; omega) (by have := HLN.out; omega) (by have := HLN.out; omega)).mono ?_); rw [HDU.out]; rintro e W2 ⟨rfl, hF2, hU3⟩; have HF2 := AsM hF2; have HU3 := AsM hU3; have hszr := HF.out.size; have HSB := AsM (hF2.blk (g := wr.heap.size) (blk_newN rfl) (by have h7 := blk_lt HU.out.n1; have h8 := blk_lt HU.out.n2; have h9 := blk_lt HU.out.n3; simp; omega)); have hsd : W2.cell? ⟨wr.heap.size, 0, none⟩ = some (.int .i64 day) := blk_cell HSB.out 0; clear hF2 hU3))
    go_roundg (days.length - (d + 1))
    case measure => have := HM.out; omega
    case rel =>
     have hln := dayU_len cel slo code b
     rw [HDU.out] at hln
     have hsp := HSP.out
     rw [HDR.out] at hsp
     have hstep : canonDays hor cel slo (⟨day, code⟩ :: days.drop (d + 1)) cnt last b = canonDays hor cel slo (days.drop (d + 1)) (cnt + code.length) day b2 := by
      conv => lhs; unfold canonDays
      simp only
      rw [if_neg (by have := T1.out; omega), if_neg (by have := T2.out; omega), if_neg (by have := T3.out; omega), HDU.out]; rfl
     have h7 := blk_lt HU.out.n1
     have h8 := blk_lt HU.out.n2
     have h9 := blk_lt HU.out.n3
     have t3' := T3.out
     exact ⟨d + 1, cnt + code.length, day, b2, rfl, rfl, by go_num, by omega, by omega, by omega, ⟨Nat.le_refl _⟩, ⟨(HF.out.alloc _).trans HF2.out (fun i hi => .inr (by have := HGE.out; simp at hi; omega))⟩, ⟨HF2.out.blk (blk_alloc HB.out _) (by simp; omega)⟩, HU3, ⟨⟨hln.1.trans HLN.out.1, hln.2.1.trans HLN.out.2.1, hln.2.2.trans HLN.out.2.2⟩⟩, ⟨hsp.trans hstep⟩⟩
  ·obtain rfl : d = days.length := by omega
   have n3 : decide (days.length < days.length) = false := by simp
   have hsp := HSP.out
   rw [List.drop_length] at hsp
   obtain ⟨q1, hq1⟩ : ∃ q, b.1.contains false = q := ⟨_, rfl⟩
   obtain ⟨q2, hq2⟩ : ∃ q, b.2.1.contains false = q := ⟨_, rfl⟩
   obtain ⟨q3, hq3⟩ : ∃ q, b.2.2.contains false = q := ⟨_, rfl⟩
   have HCP : Aside0 (canonP names curs pool hor cel slo sta days = if q1 = true then 121 else if q2 = true then 121 else if q3 = true then 121 else 0) := ⟨by
    unfold canonP
    rw [if_neg (by rw [HLB.out]; decide), hsp]
    unfold canonDays
    simp only [hq1, hq2, hq3]⟩
   rw [HCP.out]
   have C1 := AsM (fun W (h : Fr wr W []) => containsB_calls g1 b.1 W (h.blk HU.out.n1 (by simp)) (by have := HLN.out; omega) q1 hq1)
   have C2 := AsM (fun W (h : Fr wr W []) => containsB_calls g2 b.2.1 W (h.blk HU.out.n2 (by simp)) (by have := HLN.out; omega) q2 hq2)
   have C3 := AsM (fun W (h : Fr wr W []) => containsB_calls g3 b.2.2 W (h.blk HU.out.n3 (by simp)) (by have := HLN.out; omega) q3 hq3)
   have u0 : wr.cell? ⟨u, 0, none⟩ = some (.slice (some ⟨g1, 0, none⟩) b.1.length b.1.length) := blk_cell HU.out.blk 0
   have u1 : wr.cell? ⟨u, 1, none⟩ = some (.slice (some ⟨g2, 0, none⟩) b.2.1.length b.2.1.length) := blk_cell HU.out.blk 1
   have u2' : wr.cell? ⟨u, 2, none⟩ = some (.slice (some ⟨g3, 0, none⟩) b.2.2.length b.2.2.length) := blk_cell HU.out.blk 2
   have hul := blk_lt HU.out.blk
   clear hsp hq1 hq2 hq3
   go_wp2
   go_region_held3 (fun w' => w'.cell? ⟨u, 0, none⟩ = some (.slice (some ⟨g1, 0, none⟩) b.1.length b.1.length) ∧ w'.cell? ⟨u, 1, none⟩ = some (.slice (some ⟨g2, 0, none⟩) b.2.1.length b.2.1.length) ∧ w'.cell? ⟨u, 2, none⟩ = some (.slice (some ⟨g3, 0, none⟩) b.2.2.length b.2.2.length)) (first | (refine ⟨fr_at (L := []) u0 ?_ List.not_mem_nil, fr_at (L := []) u1 ?_ List.not_mem_nil, fr_at (L := []) u2' ?_ List.not_mem_nil⟩ <;> exact FQ) | go_keep) (fail)
   obtain ⟨wo, hwo⟩ : ∃ wo : World, wo = wr := ⟨_, rfl⟩
   subst hwo
   go_wp2
   go_loopg [79] 3 (fun kq x w3 => ∃ k : Nat, x = .int .i64 k ∧ k ≤ 3 ∧ Aside0 (3 - k ≤ kq) ∧ Aside0 (Fr wo w3 []) ∧ Aside0 (w3.heap[wo.heap.size]? = some (.cells #[.slice (some ⟨g1, 0, none⟩) b.1.length b.1.length, .slice (some ⟨g2, 0, none⟩) b.2.1.length b.2.1.length, .slice (some ⟨g3, 0, none⟩) b.2.2.length b.2.2.length] 124 (0, 0))) ∧ Aside0 (1 ≤ k → q1 = false) ∧ Aside0 (2 ≤ k → q2 = false) ∧ Aside0 (3 ≤ k → q3 = false))
   case atStart => exact ⟨0, rfl, by omega, ⟨Nat.le_refl _⟩, ⟨FQ⟩, ⟨blk_drew (blk_newN rfl)⟩, ⟨fun h => by omega⟩, ⟨fun h => by omega⟩, ⟨fun h => by omega⟩⟩
   case round =>
    obtain ⟨k, rfl, hk3, HM3, HFq, HSB, HA1, HA2, HA3⟩ := hrel
    clear u0 u1 u2' hul
    have hk4 : k = 0 ∨ k = 1 ∨ k = 2 ∨ k = 3 := by omega
    have C1' := C1.out
    have C2' := C2.out
    have C3' := C3.out
    rcases hk4 with rfl | rfl | rfl | rfl
    ·have hck : wr.cell? ⟨wo.heap.size, 0, none⟩ = _ := blk_cell HSB.out 0
     have hsl := blk_lt HSB.out
     obtain ⟨qq, hqq⟩ : ∃ qq, q1 = qq := ⟨_, rfl⟩
     have HQ := AsM hqq
     rw [hqq] at C1'
     have C12 := AsM C1'
     clear hqq C1'
     cases qq
     ·go_wp2_with (first | (go_at_call 59; (with_reducible refine (C12.out _ ?_).mono ?_); (next => exact HFq.out); rintro e W9 ⟨rfl, ⟨n9, rfl⟩⟩))
      go_roundg (3 - 1)
      case measure => have := HM3.out; omega
      case rel => exact ⟨1, rfl, by omega, ⟨by omega⟩, ⟨HFq.out.drewN _⟩, ⟨blk_drewN HSB.out _⟩, ⟨fun _ => HQ.out⟩, ⟨fun h => by omega⟩, ⟨fun h => by omega⟩⟩
     ·go_wp2_with (first | (go_at_call 59; (with_reducible refine (C12.out _ ?_).mono ?_); (next => exact HFq.out); rintro e W9 ⟨rfl, ⟨n9, rfl⟩⟩))
      go_ret
      refine canon_end ?_ ((HF.out.trans HFq.out (by simp)).drewN _)
      rw [HCP.out]
      
      rw [if_pos HQ.out]
    ·have hck : wr.cell? ⟨wo.heap.size, 1, none⟩ = _ := blk_cell HSB.out 1
     have hsl := blk_lt HSB.out
     obtain ⟨qq, hqq⟩ : ∃ qq, q2 = qq := ⟨_, rfl⟩
     have HQ := AsM hqq
     rw [hqq] at C2'
     have C22 := AsM C2'
     clear hqq C2'
     cases qq
     ·go_wp2_with (first | (go_at_call 59; (with_reducible refine (C22.out _ ?_).mono ?_); (next => exact HFq.out); rintro e W9 ⟨rfl, ⟨n9, rfl⟩⟩))
      go_roundg (3 - 2)
      case measure => have := HM3.out; omega
      case rel => exact ⟨2, rfl, by omega, ⟨by omega⟩, ⟨HFq.out.drewN _⟩, ⟨blk_drewN HSB.out _⟩, ⟨fun _ => HA1.out (by omega)⟩, ⟨fun _ => HQ.out⟩, ⟨fun h => by omega⟩⟩
     ·go_wp2_with (first | (go_at_call 59; (with_reducible refine (C22.out _ ?_).mono ?_); (next => exact HFq.out); rintro e W9 ⟨rfl, ⟨n9, rfl⟩⟩))
      go_ret
      refine canon_end ?_ ((HF.out.trans HFq.out (by simp)).drewN _)
      rw [HCP.out]
      rw [if_neg (by rw [HA1.out (by omega)]; decide)]
      rw [if_pos HQ.out]
    ·have hck : wr.cell? ⟨wo.heap.size, 2, none⟩ = _ := blk_cell HSB.out 2
     have hsl := blk_lt HSB.out
     obtain ⟨qq, hqq⟩ : ∃ qq, q3 = qq := ⟨_, rfl⟩
     have HQ := AsM hqq
     rw [hqq] at C3'
     have C32 := AsM C3'
     clear hqq C3'
     cases qq
     ·go_wp2_with (first | (go_at_call 59; (with_reducible refine (C32.out _ ?_).mono ?_); (next => exact HFq.out); rintro e W9 ⟨rfl, ⟨n9, rfl⟩⟩))
      go_roundg (3 - 3)
      case measure => have := HM3.out; omega
      case rel => exact ⟨3, rfl, by omega, ⟨by omega⟩, ⟨HFq.out.drewN _⟩, ⟨blk_drewN HSB.out _⟩, ⟨fun _ => HA1.out (by omega)⟩, ⟨fun _ => HA2.out (by omega)⟩, ⟨fun _ => HQ.out⟩⟩
     ·go_wp2_with (first | (go_at_call 59; (with_reducible refine (C32.out _ ?_).mono ?_); (next => exact HFq.out); rintro e W9 ⟨rfl, ⟨n9, rfl⟩⟩))
      go_ret
      refine canon_end ?_ ((HF.out.trans HFq.out (by simp)).drewN _)
      rw [HCP.out]
      rw [if_neg (by rw [HA1.out (by omega)]; decide), if_neg (by rw [HA2.out (by omega)]; decide)]
      rw [if_pos HQ.out]
    ·go_wp2
     go_ret
     refine canon_end ?_ (HF.out.trans HFq.out (by simp))
     rw [HCP.out]
     rw [if_neg (by rw [HA1.out (by omega)]; decide), if_neg (by rw [HA2.out (by omega)]; decide), if_neg (by rw [HA3.out (by omega)]; decide)]
end Go.Proofs.YtpoehkacfmljcaaGreatDoor.H
