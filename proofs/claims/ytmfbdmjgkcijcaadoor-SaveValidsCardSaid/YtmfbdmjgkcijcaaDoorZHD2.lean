/- machine.copied (under way). -/
import Derived.Test.YtmfbdmjgkcijcaaDoorZV
import Derived.Test.YtmfbdmjgkcijcaaDoorZHR
namespace Go.Proofs.YtmfbdmjgkcijcaaDoor.H
open Go.RowKit Go.Proofs.YtmfbdmjgkcijcaaDoorW.PrintWords Go.Proofs.YtmfbdmjgkcijcaaDoorW.PrintLast Go.Proofs.YtmfbdmjgkcijcaaDoorW.PrintMore
open Go.ChangeMaps (setBlock)
attribute [local go_sem] max2_int min2_int max_two min_two max_three min_three max_four min_four
set_option linter.unusedVariables false
set_option linter.unusedSimpArgs false
open Go.Proofs.YtmfbdmjgkcijcaaDoor.M
def CopyPost (w : World) (e : Ending) (w' : World) : Prop :=
  ∃ d f A2 n2 c2 A3 n3 c3 st wt, e = .returned (.agg #[.int .i64 d, .int .i64 f, .slice A2 n2 c2, .slice A3 n3 c3, .int .i64 st, .int .i64 wt]) ∧ Fr w w' []
theorem step1 {ops : Array Oper} {o : Oper} {a : Act} {Q : Exit → Act → World → Prop} {K : Act → World → Prop} {E0 : Prop} {W : World} (T E bytes : Nat) (z : Value) (s x : Operand) (hg0 : o.guard = none) (ho : o.op = .call { callee := .builtin .append, args := #[s, x], argTypes := #[T, T] }) (ht : Tryd.prog.underlying T = some (.slice E)) (hi : (Tryd.prog.info? E).map (fun i => (i.zero, i.size, i.bytes)) = some (some z, 1, bytes)) (hz : z.cells.size = 1) (v : Value) (n : Nat) (vals : List Value) (ad : Addr) (u : Value)
    (hs : a.eval s = v) (hx : a.eval x = .slice (some ad) 1 1) (HO : W.ownsRow 0 E 1 v n vals) (hc : W.cell? ad = some u) (hu : u.oneCell' = true) (hl : n + 1 ≤ 1000000000) (hb : bytes ≤ 100)
    (h : ∀ v1 w1, w1.ownsRow 0 E 1 v1 (n + 1) (vals ++ [u]) → W.grownBy w1 v.ownBlock → (v1.ownBlock = v.ownBlock ∨ v1.ownBlock = some W.heap.size) → K (a.put o.dst v1) w1) : if Region.wanted o (yielded ops a.tmps) = true then Oper.wp Tryd.prog o a W K Q else E0 := by
  obtain ⟨i0, hi0, hz0, hz1, hz2⟩ := info_parts hi
  have hbb : (n + 1) * bytes ≤ 140737488355328 := by
    have : (n + 1) * bytes ≤ 1000000000 * 100 := Nat.mul_le_mul hl hb
    omega
  obtain ⟨v1, w1, hr, h2, h3, _, h5⟩ := run_append_own_at (P := Tryd.prog) W 0 T o.type E i0 z 1 bytes ht hi0 hz0 hz1 hz2 hz (by omega) v n vals HO ad 1 1 [u] rfl
    (by
    intro j w hw
    obtain rfl : j = 0 := by (cases j with | zero => rfl | succ j => simp at hw)
    simp at hw; subst hw; simpa [Addr.add] using hc) (by intro w hw; obtain rfl := List.mem_singleton.1 hw; exact hu) (by simp only [maxLen]; omega) hbb (Nat.zero_le _)
  exact step_val hg0 (exec_append ho hs hx hr) (h v1 w1 h2 h3 h5)
theorem infoC : (Tryd.prog.info? 42).map (fun i => (i.zero, i.size, i.bytes)) = some (some (.slice none 0 0), 1, 24) := by kernel_rfl
set_option maxHeartbeats 4000000 in
set_option maxRecDepth 100000 in
theorem copied_calls (d f : Int) (A2 : Option Addr) (c2 : Nat) (hand : List Int) (A3 : Option Addr) (c3 : Nat) (slots : List (List S69)) (st wt : Int) (w : World) (hr2 : Kd.C (Kd.int .i64) w A2 hand.length hand) (hc2 : hand.length ≤ c2) (hl2 : hand.length ≤ 1000000000000) (hr3 : Kd.C (Kd.slice 69 k69) w A3 slots.length slots) (hc3 : slots.length ≤ c3) (hl3 : slots.length ≤ 1000000) (hls : ∀ s ∈ slots, s.length ≤ 1000000000) :
    Calls Tryd.prog 12 #[.agg #[.int .i64 d, .int .i64 f, .slice A2 hand.length c2, .slice A3 slots.length c3, .int .i64 st, .int .i64 wt]] w (CopyPost w) := by
  have H2 : Aside0 (∀ W, Fr w W [] → Calls Tryd.prog 18 #[.slice A2 hand.length c2] W (ClonePost (Kd.int .i64) hand W)) := ⟨fun W h => cloneI_calls A2 c2 hand W (Kd.C_below hr2 h.below) hc2 hl2⟩
  have H3 := Aside0.mk hr3
  have HLS := Aside0.mk hls
  clear hr2 hr3 hls
  have hup := Tryd.underlying30
  go_enter Tryd.func12, Tryd.ntmps12
  go_upto_region 5 with (first | (go_at_call 18; (with_reducible refine (H2.out _ ?_).mono ?_); (next => exact FQ); rintro e W1 ⟨B2, b2, rfl, hb2, hrb, hF1⟩; have HB1 := Aside0.mk (hF1.blk (g := w.heap.size + 1 + 1) (blk_newN (by simp)) (by simp)); have HX1 := Aside0.mk (hF1.blk (g := w.heap.size) (blk_alloc (blk_alloc (blk_newN rfl) _) _) (by simp)); have x3 : W1.cell? ⟨w.heap.size, 3, none⟩ = some (.slice A3 slots.length c3) := blk_cell HX1.out 3; have HT1 := Aside0.mk (hF1.blk (g := w.heap.size + 1) (blk_alloc (blk_newN (by simp)) _) (by simp)); have HF1 : Aside0 (Fr w W1 []) := ⟨Fr.trans (M := []) FQ hF1 (by simp)⟩; have hbl := blk_lt HB1.out; have v2 := blk_cell HB1.out 2; have z2 := blk_frozen HB1.out 2; have v3 := blk_cell HB1.out 3; have z3 := blk_frozen HB1.out 3; clear hF1 hrb))
  have HB2 := Aside0.mk (blk_set (blk_set HB1.out 2 (.slice B2 hand.length b2)) 3 (.slice none 0 0))
  go_loopg [5, 15] slots.length (fun kq s5 s15 wr => ∃ (k : Nat) (Av : Option Addr) (nv cv nn : Nat) (vals : List Value), s15 = .int .i64 k ∧ k ≤ slots.length ∧ Aside0 (slots.length - k ≤ kq) ∧ Aside0 (Fr w wr []) ∧ Aside0 (wr.heap[w.heap.size + 1 + 1]? = some (.cells #[.int .i64 d, .int .i64 f, .slice B2 hand.length b2, .slice Av nv cv, .int .i64 st, .int .i64 wt] 30 (0, 0))) ∧ Aside0 (wr.ownsRow 0 42 1 (.slice Av nv cv) nn vals) ∧ Aside0 (nn ≤ k) ∧ Aside0 (∀ i, (Value.slice Av nv cv).ownBlock = some i → w.heap.size + 1 + 1 < i) ∧ Aside0 (wr.heap[w.heap.size + 1]? = some (.cells #[.int .i64 0, .int .i64 0, .slice none 0 0, .slice none 0 0, .int .i64 0, .int .i64 0] 30 (0, 0))))
  case atStart => exact ⟨0, none, 0, 0, 0, [], rfl, Nat.zero_le _, ⟨Nat.le_refl _⟩, ⟨by (with_reducible (repeat (first | exact Fr.refl _ _ | refine Fr.drew ?_ | refine Fr.drewN ?_ _ | refine Fr.alloc ?_ _ | refine Fr.setCell ?_ _ _ ?_))) <;> first | exact HF1.out | (simp; done) | exact .inr (by omega) | (simp; omega)⟩, ⟨blk_to HB2.out rfl⟩, ⟨own_nil _ _ _ _⟩, ⟨Nat.le_refl _⟩, ⟨fun i h => by simp [Value.ownBlock] at h⟩, ⟨blk_far (blk_far HT1.out (by simp) _) (by simp) _⟩⟩
  case round =>
    obtain ⟨k, Av, nv, cv, nn, vals, rfl, hk, HM, HFW, HBW, HO, HNV, HOB, HT⟩ := hrel
    by_cases hkl : k < slots.length
    · have n3 : decide (k < slots.length) = true := by simpa using hkl
      obtain ⟨ad, A0, c0, rfl, h1, h2, h3⟩ := at_L8 (Kd.C_below H3.out HFW.out.below) (k : Int) (by omega) (by omega)
      simp only [rd_L8, Int.toNat_natCast] at h1 h2 h3
      obtain ⟨xs, hxs⟩ : ∃ xs, slots.getD k [] = xs := ⟨_, rfl⟩
      rw [hxs] at h1 h2 h3
      have HX3 := Aside0.mk h3
      have hlx : xs.length ≤ 1000000000000 := by
        have := HLS.out xs (by rw [← hxs, List.getD_eq_getElem?_getD, List.getElem?_eq_getElem hkl]; exact List.getElem_mem hkl)
        omega
      clear h3 hxs
      have CC : Aside0 (∀ W, Fr wr W [] → Calls Tryd.prog 24 #[.slice A0 xs.length c0] W (ClonePost k69 xs W)) := ⟨fun W h => cloneC_calls A0 c0 xs W (Kd.C_below HX3.out h.below) h2 hlx⟩
      have q3 : wr.cell? ⟨w.heap.size + 1 + 1, 3, none⟩ = some (.slice Av nv cv) := blk_cell HBW.out 3
      have hbw := blk_lt HBW.out
      have HNF := Aside0.mk (show w.heap.size + 1 + 1 ∉ (Value.slice Av nv cv).ownBlock.toList from fun h => by have := HOB.out _ (by simpa using h); omega)
      have HNT := Aside0.mk (show w.heap.size + 1 ∉ (Value.slice Av nv cv).ownBlock.toList from fun h => by have := HOB.out _ (by simpa using h); omega)
      go_upto_region 7 with fail
      refine start_ (n := 8) (S := (fun w' => w'.cell? ⟨w.heap.size + 1 + 1, 3, none⟩ = some (.slice Av nv cv))) (ds := [5, 7]) #[false, false, false, false, false, false, false, false] (by kernel_rfl) rfl rfl q3 (fun hHeld => ?_)
      refine pure_ (i := 0) (N := some 19) (v := ?_) (a' := ?_) #[true, false, false, false, false, false, false, false] rfl rfl (by kernel_rfl) (fun _ _ _ h => h) (Or.inl ⟨by rfl, ?_⟩) ?_ ?_
      rotate_left
      · intro w'
        go_simp
        with_reducible rfl
      rotate_left
      · simp only [Act.put, lS, lZ, lU]
        rfl
      refine pure_ (i := 2) (N := some 21) (v := ?_) (a' := ?_) #[true, false, true, false, false, false, false, false] rfl rfl (by kernel_rfl) (fun _ _ _ h => h) (Or.inl ⟨by rfl, ?_⟩) ?_ ?_
      rotate_left
      · intro w'
        go_simp
        with_reducible rfl
      rotate_left
      · simp only [Act.put, lS, lZ, lU]
        rfl
      refine take_ (i := 1) (N := some 20) (v := ?_) (a' := ?_) #[true, true, true, false, false, false, false, false] rfl rfl (by kernel_rfl) (fun _ _ _ h => h) (Or.inl ⟨by rfl, ?_⟩) hHeld ?_ ?_
      rotate_left
      · rintro w' s0
        go_simp
        with_reducible rfl
      rotate_left
      · simp only [Act.put, lS, lZ, lU]
        rfl
      refine one_ (i := 3) (N := some 22) #[true, true, true, true, false, false, false, false] rfl rfl (by kernel_rfl) (by decide) (fun K hK => ?_)
      refine goes_ (f := 24) Tryd.func24 (by rfl) (by rfl) #[.slice A0 xs.length c0] (by rfl) rfl rfl (by first | (go_simp; done) | (go_simp; rfl) | rfl) ?_
      refine (CC.out _ FQ).mono ?_
      rintro e W2 ⟨A4, c4, rfl, hc4, hr4, hF4⟩
      have HF4 : Aside0 (Fr wr W2 []) := ⟨Fr.trans (M := []) FQ hF4 (by simp)⟩
      have HFB4 := Aside0.mk (HF4.out.blk HBW.out (by simp))
      have HFT4 := Aside0.mk (HF4.out.blk HT.out (by simp))
      have HO4 := Aside0.mk (own_fr HO.out (L := []) HF4.out (fun _ _ => List.not_mem_nil))
      have q5 : W2.cell? ⟨w.heap.size + 1 + 1, 3, none⟩ = some (.slice Av nv cv) := blk_cell HFB4.out 3
      refine ⟨_, rfl, hK.out _ _ q5 ?_⟩
      clear hF4 hr4 hK K
      intro hHeld4
      refine norm_ (a' := ?_) ?_ ?_
      rotate_left
      · show Act.put _ (some 22) _ = _
        simp only [Act.put, lS, lZ, lU]
        rfl
      refine one_ (i := 4) (N := some 23) #[true, true, true, true, true, false, false, false] rfl rfl (by kernel_rfl) (by decide) (fun K hK => ?_)
      refine value_ (w1 := ?_) (v := ?_) (by rfl) rfl ?_ ?_
      rotate_left 2
      · go_simp
        constructor
        · rfl
        · rfl
      have q6 := (blk_cell (blk_alloc HFB4.out (.cells #[.slice A4 xs.length c4] 42)) 3)
      refine hK.out _ _ q6 ?_
      clear hK K
      intro hHeld6
      refine norm_ (a' := ?_) ?_ ?_
      rotate_left
      · show Act.put _ (some 23) _ = _
        simp only [Act.put, lS, lZ, lU]
        rfl
      refine last_ (i := 5) (N := some 24) #[true, true, true, true, true, true, false, false] rfl rfl (by kernel_rfl) (by decide) (fun K hK => ?_)
      refine step1 27 42 24 (.slice none 0 0) (.tmp 20) (.tmp 23) rfl rfl Tryd.underlying27 infoC rfl (.slice Av nv cv) nn vals ⟨W2.heap.size, 0, none⟩ (.slice A4 xs.length c4) rfl rfl (own_fr HO4.out (L := []) FQ (fun _ _ => List.not_mem_nil)) (by exact blk_cell (blk_newN rfl) 0) rfl (by have := HNV.out; omega) (by omega) ?_
      intro v7 W7 hO7 hg7 hat7
      obtain ⟨A7, m7, c7, hv7⟩ := own_isSlice hO7
      subst hv7
      have HO7 := Aside0.mk hO7
      have HAT7 := Aside0.mk hat7
      have HG7 := Aside0.mk (Fr.grown (Fr.refl _ (Value.slice Av nv cv).ownBlock.toList) hg7 (fun k hk => .inl (by simp [hk])))
      have HFB7 := Aside0.mk (HG7.out.blk (by (with_reducible (repeat (first | apply blk_drew | apply blk_alloc | apply blk_set))); exact HFB4.out) HNF.out)
      have HFT7 := Aside0.mk (HG7.out.blk (by (with_reducible (repeat (first | apply blk_drew | apply blk_alloc | apply blk_set))); exact HFT4.out) HNT.out)
      have q7 : W7.cell? ⟨w.heap.size + 1 + 1, 3, none⟩ = some (.slice Av nv cv) := blk_cell HFB7.out 3
      have zz7 := blk_frozen HFB7.out 3
      clear hO7 hg7 hat7
      refine hK.out _ _ ?_
      clear hK K
      refine norm_ (a' := ?_) ?_ ?_
      rotate_left
      · show Act.put _ (some 24) _ = _
        simp only [Act.put, lS, lZ, lU]
        rfl
      refine pure_ (i := 6) (N := some 25) (v := ?_) (a' := ?_) #[true, true, true, true, true, true, true, false] rfl rfl (by kernel_rfl) (fun _ _ _ h => h) (Or.inl ⟨by rfl, ?_⟩) ?_ ?_
      rotate_left
      · intro w'
        go_simp
        with_reducible rfl
      rotate_left
      · simp only [Act.put, lS, lZ, lU]
        rfl
      refine last_ (i := 7) (N := none) #[true, true, true, true, true, true, true, true] rfl rfl (by kernel_rfl) (by decide) (fun K hK => ?_)
      refine skip_ (w1 := ?_) (by rfl) rfl ?_ ?_
      rotate_left
      · go_simp
        rfl
      refine hK.out _ _ ?_
      clear hK K
      refine done_ (by kernel_rfl) ?_
      try go_wp2
      go_roundg (slots.length - (k + 1))
      case measure => have := HM.out; omega
      case rel =>
        have hob : ∀ i, (Value.slice A7 m7 c7).ownBlock = some i → w.heap.size + 1 + 1 < i := by
          intro i hi
          rcases HAT7.out with h9 | h9
          · exact HOB.out i (h9 ▸ hi)
          · rw [h9] at hi
            have h8 := HF4.out.size
            simp at hi
            omega
        have hfa : Fr w (W2.alloc (.cells #[.slice A4 xs.length c4] 42)) [] := by (with_reducible (repeat (first | exact Fr.refl _ _ | refine Fr.drew ?_ | refine Fr.drewN ?_ _ | refine Fr.alloc ?_ _ | refine Fr.setCell ?_ _ _ ?_))); exact HFW.out.trans HF4.out (by simp)
        have hfb : Fr w W7 [] := hfa.trans HG7.out (fun i hi => .inr (by have := HOB.out i (by simpa using hi); omega))
        exact ⟨k + 1, A7, m7, c7, nn + 1, _, by go_num, by omega, ⟨Nat.le_refl _⟩, ⟨hfb.setCell _ _ (.inr (by simp; omega))⟩, ⟨blk_to (blk_set HFB7.out 3 _) rfl⟩, ⟨own_fr HO7.out (Fr.set W7 ⟨w.heap.size + 1 + 1, 3, none⟩ (.slice A7 m7 c7)) (fun i hi => by have := hob i hi; simp; omega)⟩, ⟨by have := HNV.out; omega⟩, ⟨hob⟩, ⟨blk_far HFT7.out (by simp) _⟩⟩
    · obtain rfl : k = slots.length := by omega
      have n3 : decide (slots.length < slots.length) = false := by simp
      have ht := HT.out
      have t0 := blk_cell ht 0
      have t1 := blk_cell ht 1
      have t2 := blk_cell ht 2
      have t3 := blk_cell ht 3
      have t4 := blk_cell ht 4
      have t5 := blk_cell ht 5
      have y0 := blk_frozen ht 0
      have y1 := blk_frozen ht 1
      have y2 := blk_frozen ht 2
      have y3 := blk_frozen ht 3
      have y4 := blk_frozen ht 4
      have y5 := blk_frozen ht 5
      have b0 := blk_cell HBW.out 0
      have b1 := blk_cell HBW.out 1
      have b2' := blk_cell HBW.out 2
      have b3 := blk_cell HBW.out 3
      have b4 := blk_cell HBW.out 4
      have b5 := blk_cell HBW.out 5
      clear ht
      go_wp2
      refine bodyPost_ret (results_cell_row rfl _ _ (w.heap.size + 1) 30 #[.int .i64 d, .int .i64 f, .slice B2 hand.length b2, .slice Av nv cv, .int .i64 st, .int .i64 wt] (0, 0) _ rfl ?hb hup rfl rfl) rfl ?_
      case hb => exact blk_to (blk_set (blk_set (blk_set (blk_set (blk_set (blk_set HT.out 0 _) 1 _) 2 _) 3 _) 4 _) 5 _) rfl
      exact ⟨d, f, B2, _, b2, Av, nv, cv, st, wt, rfl, by (with_reducible (repeat (first | exact Fr.refl _ _ | refine Fr.drew ?_ | refine Fr.drewN ?_ _ | refine Fr.alloc ?_ _ | refine Fr.setCell ?_ _ _ ?_))) <;> first | exact HFW.out | (simp; done) | exact .inr (by omega) | (simp; omega)⟩
end Go.Proofs.YtmfbdmjgkcijcaaDoor.H
