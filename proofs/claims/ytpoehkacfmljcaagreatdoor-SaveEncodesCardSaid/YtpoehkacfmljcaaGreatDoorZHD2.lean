/- machine.copied (under way). -/
import Derived.Test.YtpoehkacfmljcaaGreatDoorZV
import Derived.Test.YtpoehkacfmljcaaGreatDoorZWH
import Derived.Test.YtpoehkacfmljcaaGreatDoorZHF
set_option maxHeartbeats 4000000
set_option maxRecDepth 100000
namespace Go.Proofs.YtpoehkacfmljcaaGreatDoor.H
open Go.RowKit Go.Proofs.YtpoehkacfmljcaaGreatDoorW.PrintWords Go.Proofs.YtpoehkacfmljcaaGreatDoorW.PrintLast Go.Proofs.YtpoehkacfmljcaaGreatDoorW.PrintMore
open Go.ChangeMaps (setBlock)
attribute [local go_sem] max2_int min2_int max_two min_two max_three min_three max_four min_four
set_option linter.unusedVariables false
set_option linter.unusedSimpArgs false
open Go.Proofs.YtpoehkacfmljcaaGreatDoor.M
def CopyPost (w : World) (e : Ending) (w' : World) : Prop :=
 ∃ d f A2 n2 c2 A3 n3 c3 st wt, e = .returned (.agg #[.int .i64 d, .int .i64 f, .slice A2 n2 c2, .slice A3 n3 c3, .int .i64 st, .int .i64 wt]) ∧ Fr w w' []
theorem step1 {ops : Array Oper} {o : Oper} {a : Act} {Q : Exit → Act → World → Prop} {K : Act → World → Prop} {E0 : Prop} {W : World} (T E bytes : Nat) (z : Value) (s x : Operand) (hg0 : o.guard = none) (ho : o.op = .call { callee := .builtin .append, args := #[s, x], argTypes := #[T, T] }) (ht : Tryz.prog.underlying T = some (.slice E)) (hi : (Tryz.prog.info? E).map (fun i => (i.zero, i.size, i.bytes)) = some (some z, 1, bytes)) (hz : z.cells.size = 1) (v : Value) (n : Nat) (vals : List Value) (ad : Addr) (u : Value)
  (hs : a.eval s = v) (hx : a.eval x = .slice (some ad) 1 1) (HO : W.ownsRow 0 E 1 v n vals) (hc : W.cell? ad = some u) (hu : u.oneCell' = true) (hl : n + 1 ≤ 1000000000) (hb : bytes ≤ 100)
  (h : ∀ v1 w1, w1.ownsRow 0 E 1 v1 (n + 1) (vals ++ [u]) → W.grownBy w1 v.ownBlock → (v1.ownBlock = v.ownBlock ∨ v1.ownBlock = some W.heap.size) → K (a.put o.dst v1) w1) : if Region.wanted o (yielded ops a.tmps) = true then Oper.wp Tryz.prog o a W K Q else E0 := by
 obtain ⟨i0, hi0, hz0, hz1, hz2⟩ := info_parts hi
 have hbb : (n + 1) * bytes ≤ 140737488355328 := by
  have : (n + 1) * bytes ≤ 1000000000 * 100 := Nat.mul_le_mul hl hb
  omega
 obtain ⟨v1, w1, hr, h2, h3, _, h5⟩ := run_append_own_at (P := Tryz.prog) W 0 T o.type E i0 z 1 bytes ht hi0 hz0 hz1 hz2 hz (by omega) v n vals HO ad 1 1 [u] rfl
  (by
  intro j w hw
  obtain rfl : j = 0 := by (cases j with | zero => rfl | succ j => simp at hw)
  simp at hw; subst hw; simpa [Addr.add] using hc) (by intro w hw; obtain rfl := List.mem_singleton.1 hw; exact hu) (by simp only [maxLen]; omega) hbb (Nat.zero_le _)
 exact step_val hg0 (exec_append ho hs hx hr) (h v1 w1 h2 h3 h5)
theorem infoC : (Tryz.prog.info? 39).map (fun i => (i.zero, i.size, i.bytes)) = some (some (.slice none 0 0), 1, 24) := by kernel_rfl
theorem copied_calls (d f : Int) (A2 : Option Addr) (c2 : Nat) (hand : List Int) (A3 : Option Addr) (c3 : Nat) (slots : List (List S45)) (st wt : Int) (w : World) (hr2 : Kd.C (Kd.int .i64) w A2 hand.length hand) (hc2 : hand.length ≤ c2) (hl2 : hand.length ≤ 1000000000000) (hr3 : Kd.C (Kd.slice 45 k45) w A3 slots.length slots) (hc3 : slots.length ≤ c3) (hl3 : slots.length ≤ 1000000) (hls : ∀ s ∈ slots, s.length ≤ 1000000000) :
  Calls Tryz.prog 34 #[.agg #[.int .i64 d, .int .i64 f, .slice A2 hand.length c2, .slice A3 slots.length c3, .int .i64 st, .int .i64 wt]] w (CopyPost w) := by
 have H2 : Aside0 (∀ W, Fr w W [] → Calls Tryz.prog 48 #[.slice A2 hand.length c2] W (ClonePost (Kd.int .i64) hand W)) := ⟨fun W h => cloneI_calls A2 c2 hand W (Kd.C_below hr2 h.below) hc2 hl2⟩
 have H3 := AsM hr3
 have HLS := AsM hls
 clear hr2 hr3 hls
 have hup := Tryz.underlying30
 go_enter Tryz.func34, Tryz.ntmps34
 go_upto_region 5 with (first | (go_at_call 48; (with_reducible refine (H2.out _ ?_).mono ?_); (next => exact FQ); rintro e W1 ⟨B2, b2, rfl, hb2, hrb, hF1⟩; have HB1 := AsM (hF1.blk (g := w.heap.size + 1 + 1) (blk_newN (by simp)) (by simp)); have HX1 := AsM (hF1.blk (g := w.heap.size) (blk_alloc (blk_alloc (blk_newN rfl) _) _) (by simp)); have x3 : W1.cell? ⟨w.heap.size, 3, none⟩ = some (.slice A3 slots.length c3) := blk_cell HX1.out 3; have HT1 := AsM (hF1.blk (g := w.heap.size + 1) (blk_alloc (blk_newN (by simp)) _) (by simp)); have HF1 : Aside0 (Fr w W1 []) := ⟨Fr.trans (M := []) FQ hF1 (by simp)⟩; have hbl := blk_lt HB1.out; have v2 := blk_cell HB1.out 2; have z2 := blk_frozen HB1.out 2; have v3 := blk_cell HB1.out 3; have z3 := blk_frozen HB1.out 3; clear hF1 hrb))
 have HB2 := AsM (blk_set (blk_set HB1.out 2 (.slice B2 hand.length b2)) 3 (.slice none 0 0))
 go_loopg [5, 15] slots.length (fun kq s5 s15 wr => ∃ (k : Nat) (Av : Option Addr) (nv cv nn : Nat) (vals : List Value), s15 = .int .i64 k ∧ k ≤ slots.length ∧ Aside0 (slots.length - k ≤ kq) ∧ Aside0 (Fr w wr []) ∧ Aside0 (wr.heap[w.heap.size + 1 + 1]? = some (.cells #[.int .i64 d, .int .i64 f, .slice B2 hand.length b2, .slice Av nv cv, .int .i64 st, .int .i64 wt] 30 (0, 0))) ∧ Aside0 (wr.ownsRow 0 39 1 (.slice Av nv cv) nn vals) ∧ Aside0 (nn ≤ k) ∧ Aside0 (∀ i, (Value.slice Av nv cv).ownBlock = some i → w.heap.size + 1 + 1 < i) ∧ Aside0 (wr.heap[w.heap.size + 1]? = some (.cells #[.int .i64 0, .int .i64 0, .slice none 0 0, .slice none 0 0, .int .i64 0, .int .i64 0] 30 (0, 0))))
 case atStart => exact ⟨0, none, 0, 0, 0, [], rfl, Nat.zero_le _, ⟨Nat.le_refl _⟩, ⟨by (with_reducible (repeat (first | exact Fr.refl _ _ | refine Fr.drew ?_ | refine Fr.drewN ?_ _ | refine Fr.alloc ?_ _ | refine Fr.setCell ?_ _ _ ?_))) <;> first | exact HF1.out | (simp; done) | exact .inr (by omega) | (simp; omega)⟩, ⟨blk_to HB2.out rfl⟩, ⟨own_nil _ _ _ _⟩, ⟨Nat.le_refl _⟩, ⟨fun i h => by simp [Value.ownBlock] at h⟩, ⟨blk_far (blk_far HT1.out (by simp) _) (by simp) _⟩⟩
 case round =>
  obtain ⟨k, Av, nv, cv, nn, vals, rfl, hk, HM, HFW, HBW, HO, HNV, HOB, HT⟩ := hrel
  by_cases hkl : k < slots.length
  ·have n3 : decide (k < slots.length) = true := by simpa using hkl
   obtain ⟨ad, A0, c0, rfl, h1, h2, h3⟩ := at_L3 (Kd.C_below H3.out HFW.out.below) (k : Int) (by omega) (by omega)
   simp only [rd_L3, Int.toNat_natCast] at h1 h2 h3
   obtain ⟨xs, hxs⟩ : ∃ xs, slots.getD k [] = xs := ⟨_, rfl⟩
   rw [hxs] at h1 h2 h3
   have HX3 := AsM h3
   have hlx : xs.length ≤ 1000000000000 := by
    have := HLS.out xs (by rw [← hxs, List.getD_eq_getElem?_getD, List.getElem?_eq_getElem hkl]; exact List.getElem_mem hkl)
    omega
   clear h3 hxs
   have CC : Aside0 (∀ W, Fr wr W [] → Calls Tryz.prog 54 #[.slice A0 xs.length c0] W (ClonePost k45 xs W)) := ⟨fun W h => cloneC_calls A0 c0 xs W (Kd.C_below HX3.out h.below) h2 hlx⟩
   have q3 : wr.cell? ⟨w.heap.size + 1 + 1, 3, none⟩ = some (.slice Av nv cv) := blk_cell HBW.out 3
   have hbw := blk_lt HBW.out
   have HNF := AsM (show w.heap.size + 1 + 1 ∉ (Value.slice Av nv cv).ownBlock.toList from fun h => by have := HOB.out _ (by simpa using h); omega)
   have HNT := AsM (show w.heap.size + 1 ∉ (Value.slice Av nv cv).ownBlock.toList from fun h => by have := HOB.out _ (by simpa using h); omega)
   go_upto_region 7 with fail
   refine start_ (n := 8) (S := (fun w' => w'.cell? ⟨w.heap.size + 1 + 1, 3, none⟩ = some (.slice Av nv cv))) (ds := [5, 7]) #[false, false, false, false, false, false, false, false] (by kernel_rfl) rfl rfl q3 (fun hHeld => ?_)
   refine pure_ (i := 0) (N := some 19) (v := ?_) (a' := ?_) #[true, false, false, false, false, false, false, false] rfl rfl (by kernel_rfl) (fun _ _ _ h => h) (Or.inl ⟨by rfl, ?_⟩) ?_ ?_
   rotate_left
   ·intro w'
    go_simp
    with_reducible rfl
   rotate_left
   ·simp only [Act.put, lS, lZ, lU]
    rfl
   refine pure_ (i := 2) (N := some 21) (v := ?_) (a' := ?_) #[true, false, true, false, false, false, false, false] rfl rfl (by kernel_rfl) (fun _ _ _ h => h) (Or.inl ⟨by rfl, ?_⟩) ?_ ?_
   rotate_left
   ·intro w'
    go_simp
    with_reducible rfl
   rotate_left
   ·simp only [Act.put, lS, lZ, lU]
    rfl
   refine take_ (i := 1) (N := some 20) (v := ?_) (a' := ?_) #[true, true, true, false, false, false, false, false] rfl rfl (by kernel_rfl) (fun _ _ _ h => h) (Or.inl ⟨by rfl, ?_⟩) hHeld ?_ ?_
   rotate_left
   ·rintro w' s0
    go_simp
    with_reducible rfl
   rotate_left
   ·simp only [Act.put, lS, lZ, lU]
    rfl
   refine one_ (i := 3) (N := some 22) #[true, true, true, true, false, false, false, false] rfl rfl (by kernel_rfl) (by decide) (fun K hK => ?_)
   refine goes_ (f := 54) Tryz.func54 (by rfl) (by rfl) #[.slice A0 xs.length c0] (by rfl) rfl rfl (by first | (go_simp; done) | (go_simp; rfl) | rfl) ?_
   refine (CC.out _ FQ).mono ?_
   rintro e W2 ⟨A4, c4, rfl, hc4, hr4, hF4⟩
   have HF4 : Aside0 (Fr wr W2 []) := ⟨Fr.trans (M := []) FQ hF4 (by simp)⟩
   have HFB4 := AsM (HF4.out.blk HBW.out (by simp))
   have HFT4 := AsM (HF4.out.blk HT.out (by simp))
   have HO4 := AsM (own_fr HO.out (L := []) HF4.out (fun _ _ => List.not_mem_nil))
   have q5 : W2.cell? ⟨w.heap.size + 1 + 1, 3, none⟩ = some (.slice Av nv cv) := blk_cell HFB4.out 3
   refine ⟨_, rfl, hK.out _ _ q5 ?_⟩
   clear hF4 hr4 hK K
   intro hHeld4
   refine norm_ (a' := ?_) ?_ ?_
   rotate_left
   ·show Act.put _ (some 22) _ = _
    simp only [Act.put, lS, lZ, lU]
    rfl
   refine one_ (i := 4) (N := some 23) #[true, true, true, true, true, false, false, false] rfl rfl (by kernel_rfl) (by decide) (fun K hK => ?_)
   refine value_ (w1 := ?_) (v := ?_) (by rfl) rfl ?_ ?_
   rotate_left 2
   ·go_simp
    constructor
    ·rfl
    ·rfl
   have q6 := (blk_cell (blk_alloc HFB4.out (.cells #[.slice A4 xs.length c4] 39)) 3)
   refine hK.out _ _ q6 ?_
   clear hK K
   intro hHeld6
   refine norm_ (a' := ?_) ?_ ?_
   rotate_left
   ·show Act.put _ (some 23) _ = _
    simp only [Act.put, lS, lZ, lU]
    rfl
   refine last_ (i := 5) (N := some 24) #[true, true, true, true, true, true, false, false] rfl rfl (by kernel_rfl) (by decide) (fun K hK => ?_)
   refine step1 27 39 24 (.slice none 0 0) (.tmp 20) (.tmp 23) rfl rfl Tryz.underlying27 infoC rfl (.slice Av nv cv) nn vals ⟨W2.heap.size, 0, none⟩ (.slice A4 xs.length c4) rfl rfl (own_fr HO4.out (L := []) FQ (fun _ _ => List.not_mem_nil)) (by exact blk_cell (blk_newN rfl) 0) rfl (by have := HNV.out; omega) (by omega) ?_
   intro v7 W7 hO7 hg7 hat7
   obtain ⟨A7, m7, c7, hv7⟩ := own_isSlice hO7
   subst hv7
   have HO7 := AsM hO7
   have HAT7 := AsM hat7
   have HG7 := AsM (Fr.grown (Fr.refl _ (Value.slice Av nv cv).ownBlock.toList) hg7 (fun k hk => .inl (by simp [hk])))
   have HFB7 := AsM (HG7.out.blk (by (with_reducible (repeat (first | apply blk_drew | apply blk_alloc | apply blk_set))); exact HFB4.out) HNF.out)
   have HFT7 := AsM (HG7.out.blk (by (with_reducible (repeat (first | apply blk_drew | apply blk_alloc | apply blk_set))); exact HFT4.out) HNT.out)
   have q7 : W7.cell? ⟨w.heap.size + 1 + 1, 3, none⟩ = some (.slice Av nv cv) := blk_cell HFB7.out 3
   have zz7 := blk_frozen HFB7.out 3
   clear hO7 hg7 hat7
   refine hK.out _ _ ?_
   clear hK K
   refine norm_ (a' := ?_) ?_ ?_
   rotate_left
   ·show Act.put _ (some 24) _ = _
    simp only [Act.put, lS, lZ, lU]
    rfl
   refine pure_ (i := 6) (N := some 25) (v := ?_) (a' := ?_) #[true, true, true, true, true, true, true, false] rfl rfl (by kernel_rfl) (fun _ _ _ h => h) (Or.inl ⟨by rfl, ?_⟩) ?_ ?_
   rotate_left
   ·intro w'
    go_simp
    with_reducible rfl
   rotate_left
   ·simp only [Act.put, lS, lZ, lU]
    rfl
   refine last_ (i := 7) (N := none) #[true, true, true, true, true, true, true, true] rfl rfl (by kernel_rfl) (by decide) (fun K hK => ?_)
   refine skip_ (w1 := ?_) (by rfl) rfl ?_ ?_
   rotate_left
   ·go_simp
    rfl
   refine hK.out _ _ ?_
   clear hK K
   refine done_ (by kernel_rfl) ?_
   try go_wp2
   go_roundg (slots.length - (k + 1))
   case measure => have := HM.out; omega
   case rel =>
    have hob : ∀ i, (Value.slice A7 m7 c7).ownBlock = some i → w.heap.size + 1 + 1 < i := by
     intro i hi
     rcases HAT7.out with h9 | h9
     ·exact HOB.out i (h9 ▸ hi)
     ·rw [h9] at hi
      have h8 := HF4.out.size
      simp at hi
      omega
    have hfa : Fr w (W2.alloc (.cells #[.slice A4 xs.length c4] 39)) [] := by (with_reducible (repeat (first | exact Fr.refl _ _ | refine Fr.drew ?_ | refine Fr.drewN ?_ _ | refine Fr.alloc ?_ _ | refine Fr.setCell ?_ _ _ ?_))); exact HFW.out.trans HF4.out (by simp)
    have hfb : Fr w W7 [] := hfa.trans HG7.out (fun i hi => .inr (by have := HOB.out i (by simpa using hi); omega))
    exact ⟨k + 1, A7, m7, c7, nn + 1, _, by go_num, by omega, ⟨Nat.le_refl _⟩, ⟨hfb.setCell _ _ (.inr (by simp; omega))⟩, ⟨blk_to (blk_set HFB7.out 3 _) rfl⟩, ⟨own_fr HO7.out (Fr.set W7 ⟨w.heap.size + 1 + 1, 3, none⟩ (.slice A7 m7 c7)) (fun i hi => by have := hob i hi; simp; omega)⟩, ⟨by have := HNV.out; omega⟩, ⟨hob⟩, ⟨blk_far HFT7.out (by simp) _⟩⟩
  ·obtain rfl : k = slots.length := by omega
   have n3 : decide (slots.length < slots.length) = false := by simp
   have ht := HT.out
   obtain ⟨t0, t1, t2, t3, t4, t5⟩ := cc6 ht
   have y0 := blk_frozen ht 0
   have y1 := blk_frozen ht 1
   have y2 := blk_frozen ht 2
   have y3 := blk_frozen ht 3
   have y4 := blk_frozen ht 4
   have y5 := blk_frozen ht 5
   obtain ⟨b0, b1, b2', b3, b4, b5⟩ := cc6 HBW.out
   clear ht
   go_wp2
   refine bodyPost_ret (results_cell_row rfl _ _ (w.heap.size + 1) 30 #[.int .i64 d, .int .i64 f, .slice B2 hand.length b2, .slice Av nv cv, .int .i64 st, .int .i64 wt] (0, 0) _ rfl ?hb hup rfl rfl) rfl ?_
   case hb => exact blk_to (blk_set (blk_set (blk_set (blk_set (blk_set (blk_set HT.out 0 _) 1 _) 2 _) 3 _) 4 _) 5 _) rfl
   exact ⟨d, f, B2, _, b2, Av, nv, cv, st, wt, rfl, by (with_reducible (repeat (first | exact Fr.refl _ _ | refine Fr.drew ?_ | refine Fr.drewN ?_ _ | refine Fr.alloc ?_ _ | refine Fr.setCell ?_ _ _ ?_))) <;> first | exact HFW.out | (simp; done) | exact .inr (by omega) | (simp; omega)⟩
def proofP (r : (Int × Nat × Nat) × Acc) : Value := if r.1.1 ≠ 0 then .agg #[.int .i64 0, .int .i64 0, .int .i64 0] else .agg #[.int .i64 r.2.stack, .int .i64 r.2.fuel, .int .i64 r.2.back]
def VerifyPost (r : (Int × Nat × Nat) × Acc) (w : World) (e : Ending) (w' : World) : Prop :=
 ∃ d k, e = .returned (.tuple #[proofP r, .int .i64 d, .int .i64 k, .int .i64 r.1.1]) ∧ Fr w w' []
theorem verify_err {r : (Int × Nat × Nat) × Acc} {w W : World} {d k err : Int} (h : r.1.1 = err) (hf : Fr w W []) (hz : err ≠ 0) : VerifyPost r w (.returned (.tuple #[.agg #[.int .i64 0, .int .i64 0, .int .i64 0], .int .i64 d, .int .i64 k, .int .i64 err])) W := by
 subst h
 exact ⟨d, k, by unfold proofP; rw [if_pos hz], hf⟩
theorem verify_ok {r : (Int × Nat × Nat) × Acc} {w W : World} {d k : Int} (h : r.1.1 = 0) (hf : Fr w W []) : VerifyPost r w (.returned (.tuple #[.agg #[.int .i64 r.2.stack, .int .i64 r.2.fuel, .int .i64 r.2.back], .int .i64 d, .int .i64 k, .int .i64 0])) W := by
 exact ⟨d, k, by unfold proofP; rw [if_neg (fun hh => hh h), h], hf⟩
theorem verify_calls (A0 : Option Addr) (c0 : Nat) (names : List ByteArray) (A1 : Option Addr) (c1 : Nat) (curs : List ByteArray) (A2 : Option Addr) (c2 : Nat) (pool : List Int) (hor cel slo sta : Int) (A7 : Option Addr) (c7 : Nat) (days : List S54) (w : World) (hr0 : Kd.C Kd.string w A0 names.length names) (hc0 : names.length ≤ c0) (hr1 : Kd.C Kd.string w A1 curs.length curs) (hc1 : curs.length ≤ c1) (hr2 : Kd.C (Kd.int .i64) w A2 pool.length pool) (hc2 : pool.length ≤ c2) (hr7 : Kd.C k54 w A7 days.length days) (hc7 : days.length ≤ c7) (hpl : pool.length ≤ 100000000000000) (hdl : ∀ s ∈ days, s.f1.length ≤ 10000000000000) (G : TabW w) :
  Calls Tryz.prog 46 #[.agg #[.slice A0 names.length c0, .slice A1 curs.length c1, .slice A2 pool.length c2, .int .i64 hor, .int .i64 cel, .int .i64 slo, .int .i64 sta, .slice A7 days.length c7]] w (VerifyPost (verifyP names curs pool hor cel slo sta days) w) := by
 obtain ⟨R, hR⟩ : ∃ x, verifyP names curs pool hor cel slo sta days = x := ⟨_, rfl⟩
 rw [hR]
 have CC : Aside0 (∀ W, Fr w W [] → Calls Tryz.prog 77 #[.agg #[.slice A0 names.length c0, .slice A1 curs.length c1, .slice A2 pool.length c2, .int .i64 hor, .int .i64 cel, .int .i64 slo, .int .i64 sta, .slice A7 days.length c7]] W (VerPost R W)) := ⟨fun W h => hR ▸ verified_calls A0 c0 names A1 c1 curs A2 c2 pool hor cel slo sta A7 c7 days W (Kd.C_below hr0 h.below) hc0 (Kd.C_below hr1 h.below) hc1 (Kd.C_below hr2 h.below) hc2 (Kd.C_below hr7 h.below) hc7 hpl hdl (G.fr0 h)⟩
 clear hr0 hr1 hr2 hr7 G hdl hR
 have hup := Tryz.underlying26
 have huq := Tryz.underlying76
 obtain ⟨⟨err, dd, kk⟩, acc⟩ := R
 by_cases hz : err = 0
 case neg =>
  have hz1 : (err == 0) = false := by simpa using hz
  have hz2 : (err != 0) = true := by simpa using hz
  have HZ := AsM hz
  clear hz
  go_enter Tryz.func46, Tryz.ntmps46
  go_wp2_with (first | (go_at_call 77; (with_reducible refine (CC.out _ ?_).mono ?_); (next => exact FQ); rintro e W1 ⟨pv, rfl, hF1, hok⟩; have HB1 := AsM (hF1.blk (g := w.heap.size + 1) (blk_newN (by simp)) (by simp)); have HF1 : Aside0 (Fr w W1 []) := ⟨Fr.trans (M := []) FQ hF1 (by simp)⟩; have HOK := AsM hok; have hbl := blk_lt HB1.out; obtain ⟨v0, v1, v2⟩ := cc3 HB1.out; have z0 := blk_frozen HB1.out 0; have z1 := blk_frozen HB1.out 1; have z2 := blk_frozen HB1.out 2; clear hF1 hok))
  refine bodyPost_ret (results_list (rs := [.cell 2 76, .tmp 3, .tmp 4, .tmp 5]) rfl (by simp) (.cell (w.heap.size + 1) 76 #[.int .i64 0, .int .i64 0, .int .i64 0] (0, 0) _ rfl ?hb huq rfl rfl (.tmp (.tmp (.tmp .nil))))) rfl ?_
  case hb => exact blk_to (blk_set (blk_set (blk_set HB1.out 0 _) 1 _) 2 _) rfl
  exact verify_err rfl (by (with_reducible (repeat (first | exact Fr.refl _ _ | refine Fr.drew ?_ | refine Fr.drewN ?_ _ | refine Fr.alloc ?_ _ | refine Fr.setCell ?_ _ _ ?_))) <;> first | exact HF1.out | simp) HZ.out
 case pos =>
  subst hz
  go_enter Tryz.func46, Tryz.ntmps46
  go_upto_region 4 with (first | (go_at_call 77; (with_reducible refine (CC.out _ ?_).mono ?_); (next => exact FQ); rintro e W1 ⟨pv, rfl, hF1, hok⟩; have HB1 := AsM (hF1.blk (g := w.heap.size + 1) (blk_newN (by simp)) (by simp)); have HF1 : Aside0 (Fr w W1 []) := ⟨Fr.trans (M := []) FQ hF1 (by simp)⟩; have HOK := AsM hok; have hbl := blk_lt HB1.out; obtain ⟨v0, v1, v2⟩ := cc3 HB1.out; have z0 := blk_frozen HB1.out 0; have z1 := blk_frozen HB1.out 1; have z2 := blk_frozen HB1.out 2; clear hF1 hok))
  obtain ⟨fb, hv, rfl, hfb⟩ := HOK.out trivial
  clear HOK
  have g0 : W1.cell? ⟨fb, 0, none⟩ = some (.int .i64 acc.stack) := blk_cell hfb 0
  have g1 : W1.cell? ⟨fb, 1, none⟩ = some (.int .i64 acc.fuel) := blk_cell hfb 1
  have g2 : W1.cell? ⟨fb, 2, none⟩ = some (.int .i64 acc.back) := blk_cell hfb 2
  clear hfb
  go_wp2
  refine bodyPost_ret (results_list (rs := [.cell 2 76, .tmp 3, .tmp 4, .tmp 5]) rfl (by simp) (.cell (w.heap.size + 1) 76 #[.int .i64 acc.stack, .int .i64 acc.fuel, .int .i64 acc.back] (0, 0) _ rfl ?hb huq rfl rfl (.tmp (.tmp (.tmp .nil))))) rfl ?_
  case hb => exact blk_to (blk_set (blk_set (blk_set HB1.out 0 _) 1 _) 2 _) rfl
  exact verify_ok rfl (by (with_reducible (repeat (first | exact Fr.refl _ _ | refine Fr.drew ?_ | refine Fr.drewN ?_ _ | refine Fr.alloc ?_ _ | refine Fr.setCell ?_ _ _ ?_))) <;> first | exact HF1.out | simp)
def DayR (s : S54) (cs : List Value) : Prop := ∃ A c, cs = [.int .i64 s.f0, .slice A s.f1.length c]
def encI (x : Int) : Value := .int .i64 x
def segB (days : List S54) (q : Int) : Bool := days.any (fun s => decide (s.f0 = q))
theorem putI_run {w : World} {r : Nat} {es : Es Int} {clk : Nat} (hb : w.heap[r]? = some (obj encI es clk)) (k b : Int) : ∃ W2, (Instr.mapUpdate 77 (.map (some r)) (.int .i64 k) (.int .i64 b)).run Tryz.prog w = .ok () W2 ∧ Fr w W2 [r] ∧ W2.heap[r]? = some (obj encI (put es k b clk) (putClk es k clk)) :=
 ⟨_, run_put (enc := encI) b Tryz.underlying77 Tryz.underlying3 hb, fr_block hb⟩
def machCells (A0 : Option Addr) (n0 c0 : Nat) (x1 x2 : Value) (hor cel slo sta : Int) (A7 : Option Addr) (n7 c7 : Nat) (pst pfu pba : Int) (m : Nat) : Array Value :=
 #[.slice A0 n0 c0, x1, x2, .int .i64 hor, .int .i64 cel, .int .i64 slo, .int .i64 sta, .slice A7 n7 c7, .int .i64 pst, .int .i64 pfu, .int .i64 pba, .map (some m), .int .i64 0, .int .i64 0, .slice none 0 0, .slice none 0 0, .int .i64 0, .int .i64 0]
def Mach (w : World) (g nn : Nat) (hor cel slo sta pst pfu pba : Int) (days : List S54) : Prop :=
 ∃ A0 c0 x1 x2 A7 c7 m es clk, w.heap[g]? = some (.cells (machCells A0 nn c0 x1 x2 hor cel slo sta A7 days.length c7 pst pfu pba m) 79 (0, 0)) ∧ ReadsRow DayR 2 w A7 days.length days ∧ w.heap[m]? = some (obj encI es clk) ∧ ∀ q, (look es q).isSome = segB days q
def MadePost (r : (Int × Nat × Nat) × Acc) (nn : Nat) (hor cel slo sta : Int) (days : List S54) (w : World) (e : Ending) (w' : World) : Prop :=
 Fr w w' [] ∧ ∃ pv, e = .returned (.tuple #[pv, .int .i64 r.1.1]) ∧ (r.1.1 = 0 → ∃ g, pv = .pointer (some ⟨g, 0, none⟩) ∧ w.heap.size ≤ g ∧ Mach w' g nn hor cel slo sta r.2.stack r.2.fuel r.2.back days)
theorem made_err {r : (Int × Nat × Nat) × Acc} {nn : Nat} {hor cel slo sta : Int} {days : List S54} {w W : World} {err : Int} (h : r.1.1 = err) (hf : Fr w W []) (hz : err ≠ 0) : MadePost r nn hor cel slo sta days w (.returned (.tuple #[.pointer none, .int .i64 err])) W := by
 subst h
 exact ⟨hf, _, rfl, fun h => absurd h hz⟩
theorem stepN {ops : Array Oper} {o : Oper} {a : Act} {Q : Exit → Act → World → Prop} {K : Act → World → Prop} {E0 : Prop} {W : World} (T E sz bytes : Nat) (z : Value) (s x : Operand) (hg0 : o.guard = none) (ho : o.op = .call { callee := .builtin .append, args := #[s, x], argTypes := #[T, T] }) (ht : Tryz.prog.underlying T = some (.slice E)) (hi : (Tryz.prog.info? E).map (fun i => (i.zero, i.size, i.bytes)) = some (some z, sz, bytes)) (hz : z.cells.size = sz) (hsz : 0 < sz) (v : Value) (n : Nat) (vals : List Value) (g : Nat) (us : List Value)
  (hs : a.eval s = v) (hx : a.eval x = .slice (some ⟨g, 0, none⟩) 1 1) (HO : W.ownsRow 0 E sz v n vals) (hc : W.heap[g]? = some (.cells us.toArray E (0, 0))) (hul : us.length = sz) (hu : ∀ u ∈ us, u.oneCell' = true) (hl : n + 1 ≤ 1000000000) (hb : bytes ≤ 100)
  (h : ∀ v1 w1, w1.ownsRow 0 E sz v1 (n + 1) (vals ++ us) → W.grownBy w1 v.ownBlock → (v1.ownBlock = v.ownBlock ∨ v1.ownBlock = some W.heap.size) → K (a.put o.dst v1) w1) : if Region.wanted o (yielded ops a.tmps) = true then Oper.wp Tryz.prog o a W K Q else E0 := by
 obtain ⟨i0, hi0, hz0, hz1, hz2⟩ := info_parts hi
 have hbb : (n + 1) * bytes ≤ 140737488355328 := by
  have : (n + 1) * bytes ≤ 1000000000 * 100 := Nat.mul_le_mul hl hb
  omega
 obtain ⟨v1, w1, hr, h2, h3, _, h5⟩ := run_append_own_at (P := Tryz.prog) W 0 T o.type E i0 z sz bytes ht hi0 hz0 hz1 hz2 hz hsz v n vals HO ⟨g, 0, none⟩ 1 1 us (by omega)
  (by
  intro j u hj
  have := blk_cell hc j
  cases j with
  | zero => simpa [Addr.add, hj] using this
  | succ j => simpa [Addr.add, hj] using this) hu (by simp only [maxLen]; omega) hbb (Nat.zero_le _)
 exact step_val hg0 (exec_append ho hs hx hr) (h v1 w1 h2 h3 h5)
theorem name_ {P : Program} {c : Code} {Q : Exit → Act → World → Prop} {a : Act} {W : World} (Φ : World → Prop) (h : Φ W) (k : ∀ W', Φ W' → c.wp P Q a W') : c.wp P Q a W := k W h
theorem made_calls (A0 : Option Addr) (c0 : Nat) (names : List ByteArray) (A1 : Option Addr) (c1 : Nat) (curs : List ByteArray) (A2 : Option Addr) (c2 : Nat) (pool : List Int) (hor cel slo sta : Int) (A7 : Option Addr) (c7 : Nat) (days : List S54) (w : World) (hr0 : Kd.C Kd.string w A0 names.length names) (hc0 : names.length ≤ c0) (hr1 : Kd.C Kd.string w A1 curs.length curs) (hc1 : curs.length ≤ c1) (hr2 : Kd.C (Kd.int .i64) w A2 pool.length pool) (hc2 : pool.length ≤ c2) (hr7 : Kd.C k54 w A7 days.length days) (hc7 : days.length ≤ c7) (hpl : pool.length ≤ 100000000000000) (hdl : ∀ s ∈ days, s.f1.length ≤ 10000000000000) (hok : (verifyP names curs pool hor cel slo sta days).1.1 = 0 → names.length ≤ 1000000000000 ∧ curs.length ≤ 1000000000000 ∧ pool.length ≤ 1000000000000 ∧ (∀ s ∈ days, s.f1.length ≤ 1000000000000) ∧ days.length ≤ 100000000) (G : TabW w) :
  Calls Tryz.prog 32 #[.agg #[.slice A0 names.length c0, .slice A1 curs.length c1, .slice A2 pool.length c2, .int .i64 hor, .int .i64 cel, .int .i64 slo, .int .i64 sta, .slice A7 days.length c7]] w (MadePost (verifyP names curs pool hor cel slo sta days) names.length hor cel slo sta days w) := by
 obtain ⟨R, hR⟩ : ∃ x, verifyP names curs pool hor cel slo sta days = x := ⟨_, rfl⟩
 rw [hR] at hok ⊢
 obtain ⟨⟨err, dd, kk⟩, acc⟩ := R
 simp only at hok
 have CC : Aside0 (∀ W, Fr w W [] → Calls Tryz.prog 46 #[.agg #[.slice A0 names.length c0, .slice A1 curs.length c1, .slice A2 pool.length c2, .int .i64 hor, .int .i64 cel, .int .i64 slo, .int .i64 sta, .slice A7 days.length c7]] W (VerifyPost ((err, dd, kk), acc) W)) := ⟨fun W h => hR ▸ verify_calls A0 c0 names A1 c1 curs A2 c2 pool hor cel slo sta A7 c7 days W (Kd.C_below hr0 h.below) hc0 (Kd.C_below hr1 h.below) hc1 (Kd.C_below hr2 h.below) hc2 (Kd.C_below hr7 h.below) hc7 hpl hdl (G.fr0 h)⟩
 have HN := AsM (And.intro hr0 (And.intro hr1 hr2))
 have H7 := AsM hr7
 clear hr0 hr1 hr2 hr7 G hdl hR hpl
 have hup := Tryz.underlying26
 have huq := Tryz.underlying76
 have hum := Tryz.underlying79
 by_cases hz : err = 0
 case neg =>
  have hz1 : (err == 0) = false := by simpa using hz
  have hz2 : (err != 0) = true := by simpa using hz
  have HZ := AsM hz
  clear hz hok
  have CC2 : Aside0 (∀ W, Fr w W [] → Calls Tryz.prog 46 #[.agg #[.slice A0 names.length c0, .slice A1 curs.length c1, .slice A2 pool.length c2, .int .i64 hor, .int .i64 cel, .int .i64 slo, .int .i64 sta, .slice A7 days.length c7]] W fun e W' => ∃ d k, e = .returned (.tuple #[.agg #[.int .i64 0, .int .i64 0, .int .i64 0], .int .i64 d, .int .i64 k, .int .i64 err]) ∧ Fr W W' []) := ⟨fun W h => (CC.out W h).mono fun e W' ⟨d, k, he, hf⟩ => ⟨d, k, by rw [he]; unfold proofP; rw [if_pos HZ.out], hf⟩⟩
  clear CC
  go_enter Tryz.func32, Tryz.ntmps32
  go_wp2_with (first | (go_at_call 46; (with_reducible refine (CC2.out _ ?_).mono ?_); (next => exact FQ); rintro e W1 ⟨d, k, rfl, hF1⟩; have HF1 : Aside0 (Fr w W1 []) := ⟨Fr.trans (M := []) FQ hF1 (by simp)⟩; clear hF1))
  go_ret2
  exact made_err rfl (by (with_reducible (repeat (first | exact Fr.refl _ _ | refine Fr.drew ?_ | refine Fr.drewN ?_ _ | refine Fr.alloc ?_ _ | refine Fr.setCell ?_ _ _ ?_))) <;> first | exact HF1.out | simp) HZ.out
 case pos =>
  subst hz
  obtain ⟨hnl, hcl, hpl, hdl, hdn⟩ := hok rfl
  have HDL := AsM hdl
  obtain ⟨hr0, hr1, hr2⟩ := HN.out
  have H0 : Aside0 (∀ W, Fr w W [] → Calls Tryz.prog 47 #[.slice A0 names.length c0] W (ClonePost Kd.string names W)) := ⟨fun W h => cloneS_calls A0 c0 names W (Kd.C_below hr0 h.below) hc0 hnl⟩
  have H1 : Aside0 (∀ W, Fr w W [] → Calls Tryz.prog 47 #[.slice A1 curs.length c1] W (ClonePost Kd.string curs W)) := ⟨fun W h => cloneS_calls A1 c1 curs W (Kd.C_below hr1 h.below) hc1 hcl⟩
  have H2 : Aside0 (∀ W, Fr w W [] → Calls Tryz.prog 48 #[.slice A2 pool.length c2] W (ClonePost (Kd.int .i64) pool W)) := ⟨fun W h => cloneI_calls A2 c2 pool W (Kd.C_below hr2 h.below) hc2 hpl⟩
  clear hr0 hr1 hr2 hok hdl HN
  have CC2 : Aside0 (∀ W, Fr w W [] → Calls Tryz.prog 46 #[.agg #[.slice A0 names.length c0, .slice A1 curs.length c1, .slice A2 pool.length c2, .int .i64 hor, .int .i64 cel, .int .i64 slo, .int .i64 sta, .slice A7 days.length c7]] W fun e W' => ∃ d k, e = .returned (.tuple #[.agg #[.int .i64 acc.stack, .int .i64 acc.fuel, .int .i64 acc.back], .int .i64 d, .int .i64 k, .int .i64 0]) ∧ Fr W W' []) := ⟨fun W h => (CC.out W h).mono fun e W' ⟨d, k, he, hf⟩ => ⟨d, k, by rw [he]; unfold proofP; rw [if_neg (fun hh => hh rfl)], hf⟩⟩
  clear CC
  have hmm := @run_makeMap Tryz.prog
  go_enter Tryz.func32, Tryz.ntmps32
  go_upto_region 5 with (first | (go_at_call 46; (with_reducible refine (CC2.out _ ?_).mono ?_); (next => exact FQ); rintro e W1 ⟨d, k, rfl, hF1⟩; have HX1 := AsM (hF1.blk (g := w.heap.size) (blk_newN rfl) (by simp)); have HF1 : Aside0 (Fr w W1 []) := ⟨Fr.trans (M := []) FQ hF1 (by simp)⟩; have hxl := blk_lt HX1.out; obtain ⟨x0, x1, x2, x3, x4, x5, x6, x7⟩ := cc8 HX1.out; clear hF1))
  refine name_ (fun V => Aside0 (Fr w V []) ∧ Aside0 (V.heap[W1.heap.size + 1 + 1]? = some (.cells (machCells A0 names.length c0 (.slice A1 curs.length c1) (.slice A2 pool.length c2) hor cel slo sta A7 days.length c7 acc.stack acc.fuel acc.back (W1.heap.size + 1)) 79 (0, 0))) ∧ Aside0 (V.heap[W1.heap.size + 1]? = some (obj encI [] 0)) ∧ Aside0 (V.heap[w.heap.size]? = some (.cells #[.slice A0 names.length c0, .slice A1 curs.length c1, .slice A2 pool.length c2, .int .i64 hor, .int .i64 cel, .int .i64 slo, .int .i64 sta, .slice A7 days.length c7] 26 (0, 0)))) ⟨⟨FX HF1.out⟩, ⟨blk_newN (by simp)⟩, ⟨blk_alloc (blk_newN (by simp)) _⟩, ⟨blk_alloc (blk_alloc (blk_alloc HX1.out _) _) _⟩⟩ ?_
  have hg : w.heap.size < W1.heap.size := hxl
  clear x0 x1 x2 x3 x4 x5 x6 x7 hxl HX1 HF1 hmm
  obtain ⟨g, hgg⟩ : ∃ g, W1.heap.size + 1 = g := ⟨_, rfl⟩
  rw [hgg]
  have hg2 : w.heap.size < g := by omega
  clear hgg hg
  rintro V ⟨HF1, HB1, HM1, HX1⟩
  have x0 := blk_cell HX1.out 0
  have v0 := blk_cell HB1.out 0
  have z0 := blk_frozen HB1.out 0
  have hgl := blk_lt HB1.out
  go_upto_region 9 with (first | (go_at_call 47; (with_reducible refine (H0.out _ ?_).mono ?_); (next => exact HF1.out); rintro e W2 ⟨B0, b0, rfl, hb0, hrb0, hF2⟩; have HB2 := AsM (hF2.blk HB1.out (by simp)); have HM2 := AsM (hF2.blk HM1.out (by simp)); have HX2 := AsM (hF2.blk HX1.out (by simp)); have HF2 : Aside0 (Fr w W2 []) := ⟨Fr.trans (M := []) HF1.out hF2 (by simp)⟩; have hgl2 := blk_lt HB2.out; have y1 := blk_cell HX2.out 1; have v0 := blk_cell HB2.out 0; have z0 := blk_frozen HB2.out 0; clear hF2 hrb0) | (go_at_call 47; (with_reducible refine (H1.out _ ?_).mono ?_); (next => exact (by (with_reducible (repeat (first | exact Fr.refl _ _ | refine Fr.drew ?_ | refine Fr.drewN ?_ _ | refine Fr.alloc ?_ _ | refine Fr.setCell ?_ _ _ ?_))) <;> first | exact HF2.out | exact .inr (by simp; omega))); rintro e W3 ⟨B1, b1, rfl, hb1, hrb1, hF3⟩; have HB3 := AsM (hF3.blk (g := g + 1) (by exact blk_set HB2.out 0 _) (by simp)); have HM3 := AsM (hF3.blk (g := g) (by exact at_far HM2.out (by simp) _) (by simp)); have HX3 := AsM (hF3.blk (g := w.heap.size) (by exact at_far HX2.out (by simp; omega) _) (by simp)); have HF3 : Aside0 (Fr w W3 []) := ⟨Fr.trans (M := []) (by (with_reducible (repeat (first | exact Fr.refl _ _ | refine Fr.drew ?_ | refine Fr.drewN ?_ _ | refine Fr.alloc ?_ _ | refine Fr.setCell ?_ _ _ ?_))) <;> first | exact HF2.out | exact .inr (by simp; omega)) hF3 (by simp)⟩; have hgl3 := blk_lt HB3.out; have u2 := blk_cell HX3.out 2; have v1 := blk_cell HB3.out 1; have z1 := blk_frozen HB3.out 1; clear hF3 hrb1) | (go_at_call 48; (with_reducible refine (H2.out _ ?_).mono ?_); (next => exact (by (with_reducible (repeat (first | exact Fr.refl _ _ | refine Fr.drew ?_ | refine Fr.drewN ?_ _ | refine Fr.alloc ?_ _ | refine Fr.setCell ?_ _ _ ?_))) <;> first | exact HF3.out | exact .inr (by simp; omega))); rintro e W4 ⟨B2, b2, rfl, hb2, hrb2, hF4⟩; have HB4 := AsM (hF4.blk (g := g + 1) (by exact blk_set HB3.out 1 _) (by simp)); have HM4 := AsM (hF4.blk (g := g) (by exact at_far HM3.out (by simp) _) (by simp)); have HX4 := AsM (hF4.blk (g := w.heap.size) (by exact at_far HX3.out (by simp; omega) _) (by simp)); have HF4 : Aside0 (Fr w W4 []) := ⟨Fr.trans (M := []) (by (with_reducible (repeat (first | exact Fr.refl _ _ | refine Fr.drew ?_ | refine Fr.drewN ?_ _ | refine Fr.alloc ?_ _ | refine Fr.setCell ?_ _ _ ?_))) <;> first | exact HF3.out | exact .inr (by simp; omega)) hF4 (by simp)⟩; have hgl4 := blk_lt HB4.out; have t7 := blk_cell HX4.out 7; have v2 := blk_cell HB4.out 2; have z2 := blk_frozen HB4.out 2; have v7 := blk_cell HB4.out 7; have z7 := blk_frozen HB4.out 7; clear hF4 hrb2))
  refine name_ (fun V => Aside0 (Fr w V []) ∧ Aside0 (V.heap[g + 1]? = some (.cells (machCells B0 names.length b0 (.slice B1 curs.length b1) (.slice B2 pool.length b2) hor cel slo sta none 0 0 acc.stack acc.fuel acc.back g) 79 (0, 0))) ∧ Aside0 (V.heap[g]? = some (obj encI [] 0)) ∧ Aside0 (V.heap[w.heap.size]? = some (.cells #[.slice A0 names.length c0, .slice A1 curs.length c1, .slice A2 pool.length c2, .int .i64 hor, .int .i64 cel, .int .i64 slo, .int .i64 sta, .slice A7 days.length c7] 26 (0, 0)))) ⟨⟨by (with_reducible (repeat (first | exact Fr.refl _ _ | refine Fr.drew ?_ | refine Fr.drewN ?_ _ | refine Fr.alloc ?_ _ | refine Fr.setCell ?_ _ _ ?_))) <;> first | exact HF4.out | exact .inr (by simp; omega)⟩, ⟨blk_to (blk_set (blk_set HB4.out 2 _) 7 _) rfl⟩, ⟨at_far (at_far HM4.out (by simp) _) (by simp) _⟩, ⟨at_far (at_far HX4.out (by simp; omega) _) (by simp; omega) _⟩⟩ ?_
  clear x0 v0 z0 hgl hgl2 y1 hgl3 u2 v1 z1 v2 z2 v7 z7 hgl4 t7 hb0 hb1 hb2 HF1 HB1 HM1 HX1 HF2 HB2 HM2 HX2 HF3 HB3 HM3 HX3 HF4 HB4 HM4 HX4 H0 H1 H2 CC2
  rintro V5 ⟨HF5, HB5, HM5, HX5⟩
  have t7 := blk_cell HX5.out 7
  go_wp2
  go_loopg [9, 10, 54] days.length (fun kq s9 s10 s54 wr => ∃ (k : Nat) (Av : Option Addr) (nv cv : Nat) (vals : List Value) (es : Es Int) (clk : Nat), s54 = .int .i64 k ∧ k ≤ days.length ∧ Aside0 (days.length - k ≤ kq) ∧ Aside0 (Fr w wr []) ∧ Aside0 (wr.heap[g + 1]? = some (.cells (machCells B0 names.length b0 (.slice B1 curs.length b1) (.slice B2 pool.length b2) hor cel slo sta Av nv cv acc.stack acc.fuel acc.back g) 79 (0, 0))) ∧ Aside0 (wr.ownsRow 0 54 2 (.slice Av nv cv) k vals) ∧ Aside0 (Reps DayR 2 (days.take k) vals) ∧ Aside0 (∀ i, (Value.slice Av nv cv).ownBlock = some i → g + 1 < i) ∧ Aside0 (wr.heap[g]? = some (obj encI es clk)) ∧ Aside0 (∀ q, (look es q).isSome = segB (days.take k) q))
  case atStart => exact ⟨0, none, 0, 0, [], [], 0, rfl, Nat.zero_le _, ⟨Nat.le_refl _⟩, ⟨FX HF5.out⟩, ⟨by (with_reducible (repeat (first | apply blk_drew | apply blk_alloc | apply blk_set))); exact HB5.out⟩, ⟨own_nil _ _ _ _⟩, ⟨Reps.none _ _⟩, ⟨fun i h => by simp [Value.ownBlock] at h⟩, ⟨by (with_reducible (repeat (first | apply blk_drew | apply blk_alloc | apply blk_set))); exact HM5.out⟩, ⟨fun q => rfl⟩⟩
  case round =>
   obtain ⟨k, Av, nv, cv, vals, es, clk, rfl, hk, HM, HFW, HBW, HO, HRP, HOB, HMW, HSG⟩ := hrel
   by_cases hkl : k < days.length
   ·have n3 : decide (k < days.length) = true := by simpa using hkl
    obtain ⟨ad, A1, c1', rfl, h1, h2, h3, h4⟩ := day_at (Kd.C_below H7.out HFW.out.below) k hkl
    obtain ⟨x, hx⟩ : ∃ x, days.getD k z54 = x := ⟨_, rfl⟩
    rw [hx] at h1 h2 h3 h4
    have hxm : days[k]? = some x := by rw [List.getD_eq_getElem?_getD, List.getElem?_eq_getElem hkl] at hx; rw [List.getElem?_eq_getElem hkl]; simpa using hx
    have HXM := AsM hxm
    have hlx : x.f1.length ≤ 1000000000000 := HDL.out x (List.mem_of_getElem? hxm)
    have H4 := AsM h4
    clear h4 hx hxm
    have CC : Aside0 (∀ W, Fr wr W [] → Calls Tryz.prog 49 #[.slice A1 x.f1.length c1'] W (ClonePost k113 x.f1 W)) := ⟨fun W h => cloneN_calls A1 c1' x.f1 W (Kd.C_below H4.out h.below) h3 hlx⟩
    have hus := Tryz.underlying54
    go_upto_region 12 with fail
    refine name_ (fun V => Aside0 (Fr wr V []) ∧ Aside0 (V.heap[wr.heap.size]? = some (.cells #[.int .i64 x.f0, .slice A1 x.f1.length c1'] 54 (0, 0)))) ⟨⟨FQ⟩, ⟨?_⟩⟩ ?_
    ·exact blk_newN rfl
    rintro V ⟨HFV, HDV⟩
    have HBV := AsM (HFV.out.blk HBW.out (by simp))
    refine start_ (n := 18) (S := fun w' => w'.cell? ⟨g + 1, 7, none⟩ = some (.slice Av nv cv) ∧ w'.cell? ⟨wr.heap.size, 0, none⟩ = some (.int .i64 x.f0) ∧ w'.cell? ⟨wr.heap.size, 1, none⟩ = some (.slice A1 x.f1.length c1')) (ds := [13, 17]) #[false, false, false, false, false, false, false, false, false, false, false, false, false, false, false, false, false, false] (by kernel_rfl) rfl rfl ⟨blk_cell HBV.out 7, blk_cell HDV.out 0, blk_cell HDV.out 1⟩ (fun hHeld => ?_)
    refine pure_ (i := 0) (N := some 59) (v := ?_) (a' := ?_) #[true, false, false, false, false, false, false, false, false, false, false, false, false, false, false, false, false, false] rfl rfl (by kernel_rfl) (fun _ _ _ h => h) (Or.inl ⟨by rfl, ?_⟩) ?_ ?_
    rotate_left
    ·intro w'
     go_simp
     with_reducible rfl
    rotate_left
    ·simp only [Act.put, lS, lZ, lU, i64_w, i32_w]
     rfl
    refine pure_ (i := 1) (N := some 60) (v := ?_) (a' := ?_) #[true, true, false, false, false, false, false, false, false, false, false, false, false, false, false, false, false, false] rfl rfl (by kernel_rfl) (fun _ _ _ h => h) (Or.inl ⟨by rfl, ?_⟩) ?_ ?_
    rotate_left
    ·intro w'
     go_simp
     with_reducible rfl
    rotate_left
    ·simp only [Act.put, lS, lZ, lU, i64_w, i32_w]
     rfl
    refine pure_ (i := 2) (N := some 61) (v := ?_) (a' := ?_) #[true, true, true, false, false, false, false, false, false, false, false, false, false, false, false, false, false, false] rfl rfl (by kernel_rfl) (fun _ _ _ h => h) (Or.inl ⟨by rfl, ?_⟩) ?_ ?_
    rotate_left
    ·intro w'
     go_simp
     with_reducible rfl
    rotate_left
    ·simp only [Act.put, lS, lZ, lU, i64_w, i32_w]
     rfl
    refine pure_ (i := 3) (N := some 62) (v := ?_) (a' := ?_) #[true, true, true, true, false, false, false, false, false, false, false, false, false, false, false, false, false, false] rfl rfl (by kernel_rfl) (fun _ _ _ h => h) (Or.inl ⟨by rfl, ?_⟩) ?_ ?_
    rotate_left
    ·intro w'
     go_simp
     with_reducible rfl
    rotate_left
    ·simp only [Act.put, lS, lZ, lU, i64_w, i32_w]
     rfl
    refine pure_ (i := 4) (N := some 63) (v := ?_) (a' := ?_) #[true, true, true, true, true, false, false, false, false, false, false, false, false, false, false, false, false, false] rfl rfl (by kernel_rfl) (fun _ _ _ h => h) (Or.inl ⟨by rfl, ?_⟩) ?_ ?_
    rotate_left
    ·intro w'
     go_simp
     with_reducible rfl
    rotate_left
    ·simp only [Act.put, lS, lZ, lU, i64_w, i32_w]
     rfl
    refine take_ (i := 5) (N := some 64) (v := ?_) (a' := ?_) #[true, true, true, true, true, true, false, false, false, false, false, false, false, false, false, false, false, false] rfl rfl (by kernel_rfl) (fun _ _ _ h => h) (Or.inl ⟨by rfl, ?_⟩) hHeld ?_ ?_
    rotate_left
    ·rintro w' ⟨s0, s1, s2⟩
     go_simp
     with_reducible rfl
    rotate_left
    ·simp only [Act.put, lS, lZ, lU, i64_w, i32_w]
     rfl
    refine pure_ (i := 6) (N := some 65) (v := ?_) (a' := ?_) #[true, true, true, true, true, true, true, false, false, false, false, false, false, false, false, false, false, false] rfl rfl (by kernel_rfl) (fun _ _ _ h => h) (Or.inl ⟨by rfl, ?_⟩) ?_ ?_
    rotate_left
    ·intro w'
     go_simp
     with_reducible rfl
    rotate_left
    ·simp only [Act.put, lS, lZ, lU, i64_w, i32_w]
     rfl
    refine take_ (i := 7) (N := some 66) (v := ?_) (a' := ?_) #[true, true, true, true, true, true, true, true, false, false, false, false, false, false, false, false, false, false] rfl rfl (by kernel_rfl) (fun _ _ _ h => h) (Or.inl ⟨by rfl, ?_⟩) hHeld ?_ ?_
    rotate_left
    ·rintro w' ⟨s0, s1, s2⟩
     go_simp
     with_reducible rfl
    rotate_left
    ·simp only [Act.put, lS, lZ, lU, i64_w, i32_w]
     rfl
    refine pure_ (i := 8) (N := some 67) (v := ?_) (a' := ?_) #[true, true, true, true, true, true, true, true, true, false, false, false, false, false, false, false, false, false] rfl rfl (by kernel_rfl) (fun _ _ _ h => h) (Or.inl ⟨by rfl, ?_⟩) ?_ ?_
    rotate_left
    ·intro w'
     go_simp
     with_reducible rfl
    rotate_left
    ·simp only [Act.put, lS, lZ, lU, i64_w, i32_w]
     rfl
    refine take_ (i := 9) (N := some 68) (v := ?_) (a' := ?_) #[true, true, true, true, true, true, true, true, true, true, false, false, false, false, false, false, false, false] rfl rfl (by kernel_rfl) (fun _ _ _ h => h) (Or.inl ⟨by rfl, ?_⟩) hHeld ?_ ?_
    rotate_left
    ·rintro w' ⟨s0, s1, s2⟩
     go_simp
     with_reducible rfl
    rotate_left
    ·simp only [Act.put, lS, lZ, lU, i64_w, i32_w]
     rfl
    refine one_ (i := 10) (N := some 69) #[true, true, true, true, true, true, true, true, true, true, true, false, false, false, false, false, false, false] rfl rfl (by kernel_rfl) (by decide) (fun K hK => ?_)
    refine goes_ (f := 49) Tryz.func49 (by rfl) (by rfl) #[.slice A1 x.f1.length c1'] (by rfl) rfl rfl (by first | (go_simp; done) | (go_simp; rfl) | rfl) ?_
    refine (CC.out _ (FX HFV.out)).mono ?_
    rintro e W2 ⟨A4, c4, rfl, hc4, hr4, hF4⟩
    have HF4 : Aside0 (Fr wr W2 []) := ⟨Fr.trans (M := []) (FX HFV.out) hF4 (by simp)⟩
    have HFB4 := AsM (hF4.blk HBV.out (by simp))
    have HFD4 := AsM (hF4.blk HDV.out (by simp))
    have HFM4 := AsM (HF4.out.blk HMW.out (by simp))
    have HO4 := AsM (own_fr HO.out (L := []) HF4.out (fun _ _ => List.not_mem_nil))
    refine ⟨_, rfl, hK.out _ _ ⟨blk_cell HFB4.out 7, blk_cell HFD4.out 0, blk_cell HFD4.out 1⟩ ?_⟩
    clear hF4 hr4 hK K
    intro hHeld4
    refine norm_ (a' := ?_) ?_ ?_
    rotate_left
    ·show Act.put _ (some 69) _ = _
     simp only [Act.put, lS, lZ, lU, i64_w, i32_w]
     rfl
    refine pure_ (i := 11) (N := some 70) (v := ?_) (a' := ?_) #[true, true, true, true, true, true, true, true, true, true, true, true, false, false, false, false, false, false] rfl rfl (by kernel_rfl) (fun _ _ _ h => h) (Or.inl ⟨by rfl, ?_⟩) ?_ ?_
    rotate_left
    ·intro w'
     go_simp
     with_reducible rfl
    rotate_left
    ·simp only [Act.put, lS, lZ, lU, i64_w, i32_w]
     rfl
    refine one_ (i := 12) (N := some 71) #[true, true, true, true, true, true, true, true, true, true, true, true, true, false, false, false, false, false] rfl rfl (by kernel_rfl) (by decide) (fun K hK => ?_)
    refine value_ (w1 := ?_) (v := ?_) (by rfl) rfl ?_ ?_
    rotate_left 2
    ·go_simp
     constructor
     ·rfl
     ·rfl
    refine hK.out _ _ ⟨blk_cell (blk_alloc HFB4.out _) 7, blk_cell (blk_alloc HFD4.out _) 0, blk_cell (blk_alloc HFD4.out _) 1⟩ ?_
    clear hK K
    intro hHeld6
    refine norm_ (a' := ?_) ?_ ?_
    rotate_left
    ·show Act.put _ (some 71) _ = _
     simp only [Act.put, lS, lZ, lU, i64_w, i32_w]
     rfl
    refine last_ (i := 13) (N := some 72) #[true, true, true, true, true, true, true, true, true, true, true, true, true, true, false, false, false, false] rfl rfl (by kernel_rfl) (by decide) (fun K hK => ?_)
    refine stepN 24 54 2 32 (.agg #[.int .i64 0, .slice none 0 0]) (.tmp 64) (.tmp 71) rfl rfl Tryz.underlying24 info54 rfl (by decide) (.slice Av nv cv) k vals W2.heap.size [.int .i64 x.f0, .slice A4 x.f1.length c4] rfl rfl (own_fr HO4.out (L := []) FQ (fun _ _ => List.not_mem_nil)) (blk_newN rfl) rfl (by simp [Value.oneCell']) (by omega) (by omega) ?_
    intro v7 W7 hO7 hg7 hat7
    obtain ⟨A7', m7, c7', hv7⟩ := own_isSlice hO7
    subst hv7
    have HO7 := AsM hO7
    have HAT7 := AsM hat7
    have HG7 := AsM (Fr.grown (Fr.refl _ (Value.slice Av nv cv).ownBlock.toList) hg7 (fun k hk => .inl (by simp [hk])))
    have HNF := AsM (show g + 1 ∉ (Value.slice Av nv cv).ownBlock.toList from fun h => by have := HOB.out _ (by simpa using h); omega)
    have HNM := AsM (show g ∉ (Value.slice Av nv cv).ownBlock.toList from fun h => by have := HOB.out _ (by simpa using h); omega)
    have HND := AsM (show wr.heap.size ∉ (Value.slice Av nv cv).ownBlock.toList from fun h => by have := own_lt HO.out _ (by simpa using h); omega)
    have HFB7 := AsM (HG7.out.blk (by (with_reducible (repeat (first | apply blk_drew | apply blk_alloc | apply blk_set))); exact HFB4.out) HNF.out)
    have HFM7 := AsM (HG7.out.blk (by (with_reducible (repeat (first | apply blk_drew | apply blk_alloc | apply blk_set))); exact HFM4.out) HNM.out)
    have HFD7 := AsM (HG7.out.blk (by (with_reducible (repeat (first | apply blk_drew | apply blk_alloc | apply blk_set))); exact HFD4.out) HND.out)
    have zz7 := blk_frozen HFB7.out 7
    have q7 := blk_cell HFB7.out 7
    clear hO7 hg7 hat7
    refine hK.out _ _ ?_
    clear hK K
    refine norm_ (a' := ?_) ?_ ?_
    rotate_left
    ·show Act.put _ (some 72) _ = _
     simp only [Act.put, lS, lZ, lU, i64_w, i32_w]
     rfl
    refine pure_ (i := 14) (N := some 73) (v := ?_) (a' := ?_) #[true, true, true, true, true, true, true, true, true, true, true, true, true, true, true, false, false, false] rfl rfl (by kernel_rfl) (fun _ _ _ h => h) (Or.inl ⟨by rfl, ?_⟩) ?_ ?_
    rotate_left
    ·intro w'
     go_simp
     with_reducible rfl
    rotate_left
    ·simp only [Act.put, lS, lZ, lU, i64_w, i32_w]
     rfl
    refine pure_ (i := 15) (N := some 74) (v := ?_) (a' := ?_) #[true, true, true, true, true, true, true, true, true, true, true, true, true, true, true, true, false, false] rfl rfl (by kernel_rfl) (fun _ _ _ h => h) (Or.inl ⟨by rfl, ?_⟩) ?_ ?_
    rotate_left
    ·intro w'
     go_simp
     with_reducible rfl
    rotate_left
    ·simp only [Act.put, lS, lZ, lU, i64_w, i32_w]
     rfl
    refine pure_ (i := 16) (N := some 75) (v := ?_) (a' := ?_) #[true, true, true, true, true, true, true, true, true, true, true, true, true, true, true, true, true, false] rfl rfl (by kernel_rfl) (fun _ _ _ h => h) (Or.inl ⟨by rfl, ?_⟩) ?_ ?_
    rotate_left
    ·intro w'
     go_simp
     with_reducible rfl
    rotate_left
    ·simp only [Act.put, lS, lZ, lU, i64_w, i32_w]
     rfl
    refine last_ (i := 17) (N := none) #[true, true, true, true, true, true, true, true, true, true, true, true, true, true, true, true, true, true] rfl rfl (by kernel_rfl) (by decide) (fun K hK => ?_)
    refine skip_ (w1 := ?_) (by rfl) rfl ?_ ?_
    rotate_left
    ·go_simp
     rfl
    refine hK.out _ _ ?_
    clear hK K
    refine done_ (by kernel_rfl) ?_
    go_upto_region 13 with fail
    have hob : ∀ i, (Value.slice A7' m7 c7').ownBlock = some i → g + 1 < i := by
     intro i hi
     rcases HAT7.out with h9 | h9
     ·exact HOB.out i (h9 ▸ hi)
     ·rw [h9] at hi
      have h8 := HF4.out.size
      have h7 := blk_lt HBW.out
      simp at hi
      omega
    have hfa : Fr w (W2.alloc (.cells #[.int .i64 x.f0, .slice A4 x.f1.length c4] 54)) [] := by (with_reducible (repeat (first | exact Fr.refl _ _ | refine Fr.drew ?_ | refine Fr.drewN ?_ _ | refine Fr.alloc ?_ _ | refine Fr.setCell ?_ _ _ ?_))); exact HFW.out.trans HF4.out (by simp)
    have hfb : Fr w W7 [] := hfa.trans HG7.out (fun i hi => .inr (by have := HOB.out i (by simpa using hi); omega))
    refine name_ (fun V => Aside0 (Fr w V []) ∧ Aside0 (V.heap[g + 1]? = some (.cells (machCells B0 names.length b0 (.slice B1 curs.length b1) (.slice B2 pool.length b2) hor cel slo sta A7' m7 c7' acc.stack acc.fuel acc.back g) 79 (0, 0))) ∧ Aside0 (V.heap[g]? = some (obj encI es clk)) ∧ Aside0 (V.heap[wr.heap.size]? = some (.cells #[.int .i64 x.f0, .slice A1 x.f1.length c1'] 54 (0, 0))) ∧ Aside0 (V.ownsRow 0 54 2 (.slice A7' m7 c7') (k + 1) (vals ++ [.int .i64 x.f0, .slice A4 x.f1.length c4]))) ⟨⟨hfb.setCell _ _ (.inr (by simp; omega))⟩, ⟨blk_to (blk_set HFB7.out 7 _) rfl⟩, ⟨at_far HFM7.out (by simp) _⟩, ⟨at_far HFD7.out (by simp; have := blk_lt HBW.out; omega) _⟩, ⟨own_fr HO7.out (Fr.set W7 ⟨g + 1, 7, none⟩ (.slice A7' m7 c7')) (fun i hi => by have := hob i hi; simp; omega)⟩⟩ ?_
    have HOB7 := AsM hob
    have hgw := blk_lt HBW.out
    clear hob hfa hfb q7 zz7
    rintro V8 ⟨HF8, HB8, HM8, HD8, HO8⟩
    have e11 : V8.cell? ⟨g + 1, 11, none⟩ = some (.map (some g)) := blk_cell HB8.out 11
    have ed0 : V8.cell? ⟨wr.heap.size, 0, none⟩ = some (.int .i64 x.f0) := blk_cell HD8.out 0
    obtain ⟨W9, hmu, hF9, hm9⟩ := putI_run (w := V8.drew) (blk_drew HM8.out) x.f0 (k : Int)
    have HF9 := AsM hF9
    have HM9 := AsM hm9
    clear hF9 hm9
    go_region
    go_wp2
    go_roundg (days.length - (k + 1))
    case measure => have := HM.out; omega
    case rel =>
     have hf9 : Fr w W9 [] := (HF8.out.drew).trans HF9.out (by intro i hi; simp at hi; omega)
     exact ⟨k + 1, A7', m7, c7', _, put es x.f0 (k : Int) clk, putClk es x.f0 clk, by go_num, by omega, ⟨Nat.le_refl _⟩, ⟨hf9⟩, ⟨HF9.out.blk (blk_drew HB8.out) (by simp)⟩, ⟨own_fr (w := V8.drew) HO8.out HF9.out (fun i hi => by have := HOB7.out i hi; simp; omega)⟩, ⟨by rw [List.take_add_one, HXM.out]; exact HRP.out.snoc ⟨A4, c4, rfl⟩ rfl⟩, HOB7, ⟨HM9.out⟩, ⟨fun q => by
      rw [look_put, List.take_add_one, HXM.out]
      have := HSG.out q
      unfold segB at this ⊢
      rw [List.any_append, ← this]
      by_cases hq : q = x.f0
      ·subst hq; simp
      ·simp [hq, Ne.symm hq]⟩⟩
   ·obtain rfl : k = days.length := by omega
    have n3 : decide (days.length < days.length) = false := by simp
    go_wp2
    go_ret2
    have hrp := HRP.out
    have hsg := HSG.out
    rw [List.take_length] at hrp hsg
    obtain ⟨A8, c8, hv8, hrr⟩ := own_reads_row HO.out hrp rfl
    injection hv8 with h1 h2 h3
    subst h1 h2 h3
    exact ⟨HFW.out, _, rfl, fun _ => ⟨g + 1, rfl, by omega, B0, b0, _, _, _, _, g, es, clk, HBW.out, hrr, HMW.out, hsg⟩⟩
end Go.Proofs.YtpoehkacfmljcaaGreatDoor.H
