/- image: a day's code. -/
import Derived.Test.YtmfbdmjgkcijcaaDoorZV
import Derived.Test.YtmfbdmjgkcijcaaDoorZHO
namespace Go.Proofs.YtmfbdmjgkcijcaaDoor.H
open Go.RowKit Go.Proofs.YtmfbdmjgkcijcaaDoorW.PrintWords Go.Proofs.YtmfbdmjgkcijcaaDoorW.PrintLast Go.Proofs.YtmfbdmjgkcijcaaDoorW.PrintMore
open Go.ChangeMaps (setBlock)
attribute [local go_sem] max2_int min2_int max_two min_two max_three min_three max_four min_four
set_option linter.unusedVariables false
set_option linter.unusedSimpArgs false
open Go.Proofs.YtmfbdmjgkcijcaaDoor.M
theorem useStep_len (cel slo op A : Int) (b : BL) : (useStep cel slo op A b).2.1.length = b.1.length ∧ (useStep cel slo op A b).2.2.1.length = b.2.1.length ∧ (useStep cel slo op A b).2.2.2.length = b.2.2.length := by
  unfold useStep
  repeat' split
  all_goals simp
theorem dayRun_step (cel slo : Int) (code : List S64) (k : Nat) (b : BL) (hk : k < code.length) : dayRun cel slo code (code.length - k) k b = if (dayStep cel slo code.length k (code.getD k z64) b).1 = true then dayRun cel slo code (code.length - (k + 1)) (k + 1) (dayStep cel slo code.length k (code.getD k z64) b).2 else (dayStep cel slo code.length k (code.getD k z64) b) := by
  obtain ⟨m, hm⟩ : ∃ m, code.length - k = m + 1 := ⟨code.length - k - 1, by omega⟩
  have hm2 : code.length - (k + 1) = m := by omega
  rw [hm, hm2]
  rfl
set_option maxHeartbeats 4000000 in
set_option maxRecDepth 100000 in
theorem day_calls (u g1 g2 g3 : Nat) (b : BL) (v0 v1 v2 v3 : Value) (cel slo : Int) (v6 v7 : Value) (A : Option Addr) (c : Nat) (code : List S64) (w0 w : World) (hw0 : Fr w0 w []) (hC : Kd.C k64 w0 A code.length code) (hc : code.length ≤ c) (hU : Uses w u g1 g2 g3 b.1 b.2.1 b.2.2) (hg : w0.heap.size ≤ g1 ∧ w0.heap.size ≤ g2 ∧ w0.heap.size ≤ g3) (G : TabW w0) (hb1 : b.1.length ≤ 1000000) (hb2 : b.2.1.length ≤ 1000000) (hb3 : b.2.2.length ≤ 1000000) :
    Calls Tryd.prog 44 #[.pointer (some ⟨u, 0, none⟩), .agg #[v0, v1, v2, v3, .int .i64 cel, .int .i64 slo, v6, v7], .slice A code.length c] w (UsePost w u g1 g2 g3 (dayU cel slo code b)) := by
  have hl63 := Kd.C_max hC
  have HC := Aside0.mk hC
  have HU := Aside0.mk hU
  have HW0 := Aside0.mk hw0
  have HG := Aside0.mk G
  have HGG := Aside0.mk hg
  clear hC hU hw0 G hg
  by_cases h2 : code.length < 2
  · have n1 : decide ((code.length : Int) - 1 < 1) = true := by simp; omega
    rw [show dayU cel slo code b = (false, b) by unfold dayU; rw [if_pos h2]]
    go_enter Tryd.func44, Tryd.ntmps44
    go_wp2
    go_ret
    exact ⟨rfl, FQ, HU.out.fr FQ⟩
  have n1 : decide ((code.length : Int) - 1 < 1) = false := by simp; omega
  rw [show dayU cel slo code b = dayRun cel slo code code.length 0 b by unfold dayU; rw [if_neg h2]]
  go_enter Tryd.func44, Tryd.ntmps44
  go_wp2
  generalize hL : (code.length : Int) - 1 = L
  have HL := Aside0.mk hL
  clear hL n1
  go_loopg [17] code.length (fun kq x wr => ∃ (k : Nat) (b' : BL), x = .int .i64 k ∧ k ≤ code.length ∧ Aside0 (code.length - k ≤ kq) ∧ Aside0 (Fr w wr [g1, g2, g3]) ∧ Aside0 (wr.heap[w.heap.size]? = some (.cells #[v0, v1, v2, v3, .int .i64 cel, .int .i64 slo, v6, v7] 26 (0, 0))) ∧ Aside0 (Uses wr u g1 g2 g3 b'.1 b'.2.1 b'.2.2) ∧ Aside0 (b'.1.length = b.1.length ∧ b'.2.1.length = b.2.1.length ∧ b'.2.2.length = b.2.2.length) ∧ Aside0 (dayRun cel slo code code.length 0 b = dayRun cel slo code (code.length - k) k b'))
  case atStart => exact ⟨0, b, rfl, Nat.zero_le _, ⟨Nat.le_refl _⟩, ⟨FQ⟩, ⟨blk_newN rfl⟩, ⟨HU.out.fr FQ⟩, ⟨rfl, rfl, rfl⟩, ⟨rfl⟩⟩
  case round =>
    obtain ⟨k, b', rfl, hk, HM, HF, HBX, HU2, HLN, HSP⟩ := hrel
    by_cases hkl : k < code.length
    · have n3 : decide (k < code.length) = true := by simpa using hkl
      have p0 : (0 : Int) ≤ (k : Int) := by omega
      have p1 : (k : Int) < code.length := by omega
      obtain ⟨ad, rfl, q0, q1, q2⟩ := instr_at HC.out k hkl
      obtain ⟨x, hx⟩ : ∃ x, code.getD k z64 = x := ⟨_, rfl⟩
      rw [hx] at q0 q1 q2
      have HX := Aside0.mk hx
      obtain ⟨op, a, bb⟩ := x
      simp only at q0 q1 q2
      have HFw : Aside0 (Fr w0 wr []) := ⟨HW0.out.trans HF.out (fun i hi => .inr (by have := HGG.out; simp at hi; omega))⟩
      have r0 := fr_at q0 HFw.out (by simp)
      have r1 := fr_at q1 HFw.out (by simp)
      have r2 := fr_at q2 HFw.out (by simp)
      have hui := Tryd.underlying64
      have hup := Tryd.underlying26
      have HT := Aside0.mk (HG.out.fr0 HFw.out)
      have hcx := blk_cell HBX.out
      have c0 := hcx 0
      have c1 := hcx 1
      have c2 := hcx 2
      have c3 := hcx 3
      have c4 := hcx 4
      have c5 := hcx 5
      have c6 := hcx 6
      have c7 := hcx 7
      have hbl := blk_lt HBX.out
      clear q0 q1 q2 hx hcx
      obtain ⟨V, hV⟩ : ∃ V, validC op a bb = V := ⟨_, rfl⟩
      have HV : Aside0 (∀ W, TabW W → Calls Tryd.prog 69 #[.agg #[.int .i64 op, .int .i64 a, .int .i64 bb]] W fun e w' => e = .returned (.int .i64 V) ∧ Fr W w' []) := ⟨fun W hW => hV ▸ valid_calls op a bb W hW⟩
      by_cases hv0 : V = 0
      case neg =>
        have e1 : (V == 0) = false := by simpa using hv0
        have e2 : (V != 0) = true := by simpa using hv0
        have HVV := Aside0.mk hV
        have HV0 := Aside0.mk hv0
        clear hV hv0
        go_wp2_with (first | (go_at_call 69; (refine (HV.out _ (HT.out.fr0 FQ)).mono ?_); rintro e W1 ⟨rfl, hF1⟩; have HF1 := Aside0.mk hF1; clear hF1))
        have hds : dayStep cel slo code.length k ⟨op, a, bb⟩ b' = (false, b') := by
          unfold dayStep; rw [if_pos (by simp only; rw [HVV.out]; exact HV0.out)]
        have hd := HSP.out.trans ((dayRun_step cel slo code k b' hkl).trans (by rw [HX.out, hds] <;> rfl))
        rw [hd]
        go_ret
        exact ⟨rfl, (HF.out.trans (M := []) (Fr.trans (M := []) FQ HF1.out (by simp)) (by simp)), HU2.out.fr (Fr.trans (M := []) FQ HF1.out (by simp))⟩
      case pos =>
        subst hv0
        have HVV := Aside0.mk hV
        have HA0 : Aside0 (0 ≤ a) := ⟨by unfold validC at hV; split at hV; (rename_i h9; exact h9.2.2.1); (exact absurd hV (by decide))⟩
        clear hV
        by_cases hop : op = 0
        · subst hop
          by_cases hkL : (k : Int) = L
          · have hkn : k + 1 = code.length := by have := HL.out; omega
            subst hkL
            obtain ⟨R, hR⟩ : ∃ R, useStep cel slo 0 a b' = R := ⟨_, rfl⟩
            obtain ⟨rb, b2⟩ := R
            have HRR := Aside0.mk hR
            have HUC : Aside0 (∀ W, Uses W u g1 g2 g3 b'.1 b'.2.1 b'.2.2 → Calls Tryd.prog 70 #[.pointer (some ⟨u, 0, none⟩), .agg #[v0, v1, v2, v3, .int .i64 cel, .int .i64 slo, v6, v7], .agg #[.int .i64 0, .int .i64 a, .int .i64 bb]] W (UsePost W u g1 g2 g3 (rb, b2))) := ⟨fun W hW => by
              have h9 := use_calls u g1 g2 g3 b'.1 b'.2.1 b'.2.2 v0 v1 v2 v3 cel slo v6 v7 0 a bb W hW HA0.out (by have := HLN.out; omega) (by have := HLN.out; omega) (by have := HLN.out; omega)
              rw [show useStep cel slo 0 a (b'.1, b'.2.1, b'.2.2) = (rb, b2) from HRR.out] at h9
              exact h9⟩
            have hds : dayStep cel slo code.length k ⟨0, a, bb⟩ b' = (rb, b2) := by
              unfold dayStep; rw [if_neg (by simpa using HVV.out), if_neg (by simp [hkn])]; exact HRR.out
            have HDS := Aside0.mk hds
            clear hR hds
            cases rb
            · go_wp2_with (first | (go_at_call 69; (refine (HV.out _ (HT.out.fr0 FQ)).mono ?_); rintro e W1 ⟨rfl, hF1⟩; have HF1 : Aside0 (Fr wr W1 []) := ⟨Fr.trans (M := []) FQ hF1 (by simp)⟩; have HB1 := Aside0.mk (hF1.blk (g := wr.heap.size) (blk_newN rfl) (by simp)); have k0 := blk_cell HB1.out 0; have k1 := blk_cell HB1.out 1; have k2 := blk_cell HB1.out 2; have HBX1 := Aside0.mk (HF1.out.blk HBX.out (by simp)); have d0 := blk_cell HBX1.out 0; have d1 := blk_cell HBX1.out 1; have d2 := blk_cell HBX1.out 2; have d3 := blk_cell HBX1.out 3; have d4 := blk_cell HBX1.out 4; have d5 := blk_cell HBX1.out 5; have d6 := blk_cell HBX1.out 6; have d7 := blk_cell HBX1.out 7; clear hF1) | (go_at_call 70; (refine (HUC.out _ (HU2.out.fr HF1.out)).mono ?_); rintro e W2 ⟨rfl, hF2, hU3⟩; have HF2 := Aside0.mk hF2; have HU3 := Aside0.mk hU3; clear hF2 hU3))
              have hd := HSP.out.trans ((dayRun_step cel slo code k b' hkl).trans (by rw [HX.out, HDS.out] <;> rfl))
              rw [hd]
              go_ret
              exact ⟨rfl, (HF.out.trans HF1.out (by simp)).trans HF2.out (fun i hi => .inl hi), HU3.out⟩
            · go_wp2_with (first | (go_at_call 69; (refine (HV.out _ (HT.out.fr0 FQ)).mono ?_); rintro e W1 ⟨rfl, hF1⟩; have HF1 : Aside0 (Fr wr W1 []) := ⟨Fr.trans (M := []) FQ hF1 (by simp)⟩; have HB1 := Aside0.mk (hF1.blk (g := wr.heap.size) (blk_newN rfl) (by simp)); have k0 := blk_cell HB1.out 0; have k1 := blk_cell HB1.out 1; have k2 := blk_cell HB1.out 2; have HBX1 := Aside0.mk (HF1.out.blk HBX.out (by simp)); have d0 := blk_cell HBX1.out 0; have d1 := blk_cell HBX1.out 1; have d2 := blk_cell HBX1.out 2; have d3 := blk_cell HBX1.out 3; have d4 := blk_cell HBX1.out 4; have d5 := blk_cell HBX1.out 5; have d6 := blk_cell HBX1.out 6; have d7 := blk_cell HBX1.out 7; clear hF1) | (go_at_call 70; (refine (HUC.out _ (HU2.out.fr HF1.out)).mono ?_); rintro e W2 ⟨rfl, hF2, hU3⟩; have HF2 := Aside0.mk hF2; have HU3 := Aside0.mk hU3; clear hF2 hU3))
              go_roundg (code.length - (k + 1))
              case measure => have := HM.out; omega
              case rel =>
                have hln := useStep_len cel slo 0 a b'
                rw [HRR.out] at hln
                have hdd := dayRun_step cel slo code k b' hkl
                rw [HX.out, HDS.out, if_pos rfl] at hdd
                exact ⟨k + 1, b2, by go_num, by omega, ⟨Nat.le_refl _⟩, ⟨(HF.out.trans HF1.out (by simp)).trans HF2.out (fun i hi => .inl hi)⟩, ⟨HF2.out.blk HBX1.out (by have h7 := blk_lt HU.out.n1; have h8 := blk_lt HU.out.n2; have h9 := blk_lt HU.out.n3; simp; omega)⟩, HU3, ⟨⟨hln.1.trans HLN.out.1, hln.2.1.trans HLN.out.2.1, hln.2.2.trans HLN.out.2.2⟩⟩, ⟨HSP.out.trans hdd⟩⟩
          · have hkn : k + 1 ≠ code.length := by have := HL.out; omega
            have e1 : ((k : Int) == L) = false := by simpa using hkL
            go_wp2_with (first | (go_at_call 69; (refine (HV.out _ (HT.out.fr0 FQ)).mono ?_); rintro e W1 ⟨rfl, hF1⟩; have HF1 : Aside0 (Fr wr W1 []) := ⟨Fr.trans (M := []) FQ hF1 (by simp)⟩; have HB1 := Aside0.mk (hF1.blk (g := wr.heap.size) (blk_newN rfl) (by simp)); have k0 := blk_cell HB1.out 0; have k1 := blk_cell HB1.out 1; have k2 := blk_cell HB1.out 2; have HBX1 := Aside0.mk (HF1.out.blk HBX.out (by simp)); have d0 := blk_cell HBX1.out 0; have d1 := blk_cell HBX1.out 1; have d2 := blk_cell HBX1.out 2; have d3 := blk_cell HBX1.out 3; have d4 := blk_cell HBX1.out 4; have d5 := blk_cell HBX1.out 5; have d6 := blk_cell HBX1.out 6; have d7 := blk_cell HBX1.out 7; clear hF1) | (go_at_call 70; (refine (HUC.out _ (HU2.out.fr HF1.out)).mono ?_); rintro e W2 ⟨rfl, hF2, hU3⟩; have HF2 := Aside0.mk hF2; have HU3 := Aside0.mk hU3; clear hF2 hU3))
            have hds : dayStep cel slo code.length k ⟨0, a, bb⟩ b' = (false, b') := by
              unfold dayStep; rw [if_neg (by simpa using HVV.out), if_pos (by simp [hkn])]
            have hd := HSP.out.trans ((dayRun_step cel slo code k b' hkl).trans (by rw [HX.out, hds] <;> rfl))
            rw [hd]
            go_ret
            exact ⟨rfl, (HF.out.trans HF1.out (by simp)), HU2.out.fr HF1.out⟩
        · have e0 : (op == 0) = false := by simpa using hop
          by_cases hkL : (k : Int) = L
          · have hkn : k + 1 = code.length := by have := HL.out; omega
            subst hkL
            go_wp2_with (first | (go_at_call 69; (refine (HV.out _ (HT.out.fr0 FQ)).mono ?_); rintro e W1 ⟨rfl, hF1⟩; have HF1 : Aside0 (Fr wr W1 []) := ⟨Fr.trans (M := []) FQ hF1 (by simp)⟩; have HB1 := Aside0.mk (hF1.blk (g := wr.heap.size) (blk_newN rfl) (by simp)); have k0 := blk_cell HB1.out 0; have k1 := blk_cell HB1.out 1; have k2 := blk_cell HB1.out 2; have HBX1 := Aside0.mk (HF1.out.blk HBX.out (by simp)); have d0 := blk_cell HBX1.out 0; have d1 := blk_cell HBX1.out 1; have d2 := blk_cell HBX1.out 2; have d3 := blk_cell HBX1.out 3; have d4 := blk_cell HBX1.out 4; have d5 := blk_cell HBX1.out 5; have d6 := blk_cell HBX1.out 6; have d7 := blk_cell HBX1.out 7; clear hF1) | (go_at_call 70; (refine (HUC.out _ (HU2.out.fr HF1.out)).mono ?_); rintro e W2 ⟨rfl, hF2, hU3⟩; have HF2 := Aside0.mk hF2; have HU3 := Aside0.mk hU3; clear hF2 hU3))
            have hds : dayStep cel slo code.length k ⟨op, a, bb⟩ b' = (false, b') := by
              unfold dayStep; rw [if_neg (by simpa using HVV.out), if_pos (by simp [hkn, hop])]
            have hd := HSP.out.trans ((dayRun_step cel slo code k b' hkl).trans (by rw [HX.out, hds] <;> rfl))
            rw [hd]
            go_ret
            exact ⟨rfl, (HF.out.trans HF1.out (by simp)), HU2.out.fr HF1.out⟩
          · have hkn : k + 1 ≠ code.length := by have := HL.out; omega
            have e1 : ((k : Int) == L) = false := by simpa using hkL
            obtain ⟨R, hR⟩ : ∃ R, useStep cel slo op a b' = R := ⟨_, rfl⟩
            obtain ⟨rb, b2⟩ := R
            have HRR := Aside0.mk hR
            have HUC : Aside0 (∀ W, Uses W u g1 g2 g3 b'.1 b'.2.1 b'.2.2 → Calls Tryd.prog 70 #[.pointer (some ⟨u, 0, none⟩), .agg #[v0, v1, v2, v3, .int .i64 cel, .int .i64 slo, v6, v7], .agg #[.int .i64 op, .int .i64 a, .int .i64 bb]] W (UsePost W u g1 g2 g3 (rb, b2))) := ⟨fun W hW => by
              have h9 := use_calls u g1 g2 g3 b'.1 b'.2.1 b'.2.2 v0 v1 v2 v3 cel slo v6 v7 op a bb W hW HA0.out (by have := HLN.out; omega) (by have := HLN.out; omega) (by have := HLN.out; omega)
              rw [show useStep cel slo op a (b'.1, b'.2.1, b'.2.2) = (rb, b2) from HRR.out] at h9
              exact h9⟩
            have hds : dayStep cel slo code.length k ⟨op, a, bb⟩ b' = (rb, b2) := by
              unfold dayStep; rw [if_neg (by simpa using HVV.out), if_neg (by simp [hkn, hop])]; exact HRR.out
            have HDS := Aside0.mk hds
            clear hR hds
            cases rb
            · go_wp2_with (first | (go_at_call 69; (refine (HV.out _ (HT.out.fr0 FQ)).mono ?_); rintro e W1 ⟨rfl, hF1⟩; have HF1 : Aside0 (Fr wr W1 []) := ⟨Fr.trans (M := []) FQ hF1 (by simp)⟩; have HB1 := Aside0.mk (hF1.blk (g := wr.heap.size) (blk_newN rfl) (by simp)); have k0 := blk_cell HB1.out 0; have k1 := blk_cell HB1.out 1; have k2 := blk_cell HB1.out 2; have HBX1 := Aside0.mk (HF1.out.blk HBX.out (by simp)); have d0 := blk_cell HBX1.out 0; have d1 := blk_cell HBX1.out 1; have d2 := blk_cell HBX1.out 2; have d3 := blk_cell HBX1.out 3; have d4 := blk_cell HBX1.out 4; have d5 := blk_cell HBX1.out 5; have d6 := blk_cell HBX1.out 6; have d7 := blk_cell HBX1.out 7; clear hF1) | (go_at_call 70; (refine (HUC.out _ (HU2.out.fr HF1.out)).mono ?_); rintro e W2 ⟨rfl, hF2, hU3⟩; have HF2 := Aside0.mk hF2; have HU3 := Aside0.mk hU3; clear hF2 hU3))
              have hd := HSP.out.trans ((dayRun_step cel slo code k b' hkl).trans (by rw [HX.out, HDS.out] <;> rfl))
              rw [hd]
              go_ret
              exact ⟨rfl, (HF.out.trans HF1.out (by simp)).trans HF2.out (fun i hi => .inl hi), HU3.out⟩
            · go_wp2_with (first | (go_at_call 69; (refine (HV.out _ (HT.out.fr0 FQ)).mono ?_); rintro e W1 ⟨rfl, hF1⟩; have HF1 : Aside0 (Fr wr W1 []) := ⟨Fr.trans (M := []) FQ hF1 (by simp)⟩; have HB1 := Aside0.mk (hF1.blk (g := wr.heap.size) (blk_newN rfl) (by simp)); have k0 := blk_cell HB1.out 0; have k1 := blk_cell HB1.out 1; have k2 := blk_cell HB1.out 2; have HBX1 := Aside0.mk (HF1.out.blk HBX.out (by simp)); have d0 := blk_cell HBX1.out 0; have d1 := blk_cell HBX1.out 1; have d2 := blk_cell HBX1.out 2; have d3 := blk_cell HBX1.out 3; have d4 := blk_cell HBX1.out 4; have d5 := blk_cell HBX1.out 5; have d6 := blk_cell HBX1.out 6; have d7 := blk_cell HBX1.out 7; clear hF1) | (go_at_call 70; (refine (HUC.out _ (HU2.out.fr HF1.out)).mono ?_); rintro e W2 ⟨rfl, hF2, hU3⟩; have HF2 := Aside0.mk hF2; have HU3 := Aside0.mk hU3; clear hF2 hU3))
              go_roundg (code.length - (k + 1))
              case measure => have := HM.out; omega
              case rel =>
                have hln := useStep_len cel slo op a b'
                rw [HRR.out] at hln
                have hdd := dayRun_step cel slo code k b' hkl
                rw [HX.out, HDS.out, if_pos rfl] at hdd
                exact ⟨k + 1, b2, by go_num, by omega, ⟨Nat.le_refl _⟩, ⟨(HF.out.trans HF1.out (by simp)).trans HF2.out (fun i hi => .inl hi)⟩, ⟨HF2.out.blk HBX1.out (by have h7 := blk_lt HU.out.n1; have h8 := blk_lt HU.out.n2; have h9 := blk_lt HU.out.n3; simp; omega)⟩, HU3, ⟨⟨hln.1.trans HLN.out.1, hln.2.1.trans HLN.out.2.1, hln.2.2.trans HLN.out.2.2⟩⟩, ⟨HSP.out.trans hdd⟩⟩
    · obtain rfl : k = code.length := by omega
      have n3 : decide (code.length < code.length) = false := by simp
      have HD : Aside0 (dayRun cel slo code code.length 0 b = (true, b')) := ⟨by rw [HSP.out, Nat.sub_self]; rfl⟩
      go_wp2
      rw [HD.out]
      go_ret
      exact ⟨rfl, HF.out, HU2.out⟩
end Go.Proofs.YtmfbdmjgkcijcaaDoor.H
