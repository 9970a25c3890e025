/- verified, Verify. -/
import Derived.Test.YtmfbdmjgkcijcaaDoorZV
import Derived.Test.YtmfbdmjgkcijcaaDoorZHC
namespace Go.Proofs.YtmfbdmjgkcijcaaDoor.H
open Go.RowKit Go.Proofs.YtmfbdmjgkcijcaaDoorW.PrintWords Go.Proofs.YtmfbdmjgkcijcaaDoorW.PrintLast Go.Proofs.YtmfbdmjgkcijcaaDoorW.PrintMore
open Go.ChangeMaps (setBlock)
attribute [local go_sem] max2_int min2_int max_two min_two max_three min_three max_four min_four
set_option linter.unusedVariables false
set_option linter.unusedSimpArgs false
open Go.Proofs.YtmfbdmjgkcijcaaDoor.M
theorem kRow_le : ∀ i, i < 29 → (kRow i).2.2.1 ≤ 1000000 := by
  have h : ∀ i : Fin 29, (kRow i).2.2.1 ≤ 1000000 := by decide
  intro i hi
  exact h ⟨i, hi⟩
theorem valid_ok {x : S64} (h : validC x.f0 x.f1 x.f2 = 0) : InstrOk x := by
  unfold validC at h
  split at h
  · rename_i h9
    have := kRow_le x.f0.toNat (by omega)
    exact ⟨h9.1, h9.2.1, h9.2.2.1, by omega⟩
  · exact absurd h (by decide)
theorem dayRun_ok {cel slo : Int} {code : List S64} : ∀ (m k : Nat) (b b' : BL), dayRun cel slo code m k b = (true, b') → ∀ j, k ≤ j → j < k + m → validC (code.getD j z64).f0 (code.getD j z64).f1 (code.getD j z64).f2 = 0
  | 0, _, _, _, _ => fun j h1 h2 => by omega
  | m + 1, k, b, b', h => by
    intro j h1 h2
    unfold dayRun at h
    split at h
    · rename_i h9
      rcases Nat.lt_or_ge k j with h3 | h3
      · exact dayRun_ok m (k + 1) _ b' h j (by omega) (by omega)
      · obtain rfl : j = k := by omega
        unfold dayStep at h9
        split at h9
        · exact absurd h9 (by simp)
        · rename_i h8; simpa using h8
    · rename_i h9
      rw [h] at h9
      exact absurd rfl h9
theorem dayU_ok {cel slo : Int} {s : S41} {b : BL} (h : (dayU cel slo s.f1 b).1 = true) (hl : s.f1.length ≤ 1000000) : 2 ≤ s.f1.length ∧ DayOk s := by
  obtain ⟨R, hR⟩ : ∃ R, dayU cel slo s.f1 b = R := ⟨_, rfl⟩
  obtain ⟨rb, b2⟩ := R
  rw [hR] at h
  simp only at h
  subst h
  unfold dayU at hR
  split at hR
  · exact absurd (congrArg (·.1) hR) (by simp)
  · rename_i h2
    have := dayRun_ok _ _ _ _ hR
    refine ⟨by omega, by omega, hl, fun x hx => ?_⟩
    obtain ⟨j, hj, rfl⟩ := List.getElem_of_mem hx
    have h3 := this j (by omega) (by omega)
    rw [List.getD_eq_getElem?_getD, List.getElem?_eq_getElem hj] at h3
    exact valid_ok h3
theorem canonDays_ok {hor cel slo : Int} : ∀ (days : List S41) (cnt last : Int) (b b' : BL), canonDays hor cel slo days cnt last b = some b' → 0 ≤ cnt → cnt ≤ 262144 → (days.length : Int) ≤ 262144 - cnt ∧ ∀ s ∈ days, DayOk s
  | [], cnt, _, _, _, _, _, hc => ⟨by simp; omega, by simp⟩
  | s :: rest, cnt, last, b, b', h, h0, hc => by
    unfold canonDays at h
    split at h
    · cases h
    split at h
    · cases h
    split at h
    · cases h
    split at h
    · cases h
    rename_i h1 h2 h3 h4
    have h4' : (dayU cel slo s.f1 b).1 = true := by simpa using h4
    have hd := dayU_ok h4' (by omega)
    have ih := canonDays_ok rest _ _ _ _ h (by omega) (by omega)
    refine ⟨by rw [List.length_cons]; omega, fun x hx => ?_⟩
    rcases List.mem_cons.1 hx with rfl | hx
    · exact hd.2
    · exact ih.2 x hx
theorem canonP_ok {names curs : List ByteArray} {pool : List Int} {hor cel slo sta : Int} {days : List S41} (h : canonP names curs pool hor cel slo sta days = 0) : listsB names curs pool hor cel slo sta = true ∧ days.length ≤ 1000000 ∧ ∀ s ∈ days, DayOk s := by
  unfold canonP at h
  split at h
  · exact absurd h (by decide)
  rename_i hl
  split at h
  · exact absurd h (by decide)
  · rename_i b hb
    have := canonDays_ok _ _ _ _ _ hb (by omega) (by omega)
    exact ⟨by simpa using hl, by omega, this.2⟩
/-- What verify comes to: the error, its places, what was found. -/
def verifyP (names curs : List ByteArray) (pool : List Int) (hor cel slo sta : Int) (days : List S41) : (Int × Nat × Nat) × Acc :=
  if canonP names curs pool hor cel slo sta days ≠ 0 then ((canonP names curs pool hor cel slo sta days, 0, 0), acc0) else
  if (lookDays days 0 acc0).1.1 ≠ 0 then lookDays days 0 acc0 else
  if sta ≠ (lookDays days 0 acc0).2.stack ∨ slo ≠ (lookDays days 0 acc0).2.slots ∨ cel ≠ (lookDays days 0 acc0).2.cell then ((147, days.length, 0), (lookDays days 0 acc0).2) else ((0, 0, 0), (lookDays days 0 acc0).2)
def VerPost (r : (Int × Nat × Nat) × Acc) (w : World) (e : Ending) (w' : World) : Prop :=
  ∃ pv, e = .returned (.tuple #[pv, .int .i64 r.1.2.1, .int .i64 r.1.2.2, .int .i64 r.1.1]) ∧ Fr w w' [] ∧ (r.1.1 = 0 → ∃ fb hv, pv = .pointer (some ⟨fb, 0, none⟩) ∧ w'.heap[fb]? = some (.cells (r.2.cells hv) 80 (0, 0)))
theorem ver_err {r : (Int × Nat × Nat) × Acc} {w W : World} {d k : Nat} {err : Int} {acc : Acc} (pv : Value) (h : r = ((err, d, k), acc)) (hf : Fr w W []) (hz : err ≠ 0) : VerPost r w (.returned (.tuple #[pv, .int .i64 d, .int .i64 k, .int .i64 err])) W := by
  subst h
  exact ⟨pv, rfl, hf, fun h => absurd h hz⟩
theorem ver_ok {r : (Int × Nat × Nat) × Acc} {w W : World} {acc : Acc} (fb : Nat) (hv : Value) (h : r = ((0, 0, 0), acc)) (hf : Fr w W []) (hb : W.heap[fb]? = some (.cells (acc.cells hv) 80 (0, 0))) : VerPost r w (.returned (.tuple #[.pointer (some ⟨fb, 0, none⟩), .int .i64 0, .int .i64 0, .int .i64 0])) W := by
  subst h
  exact ⟨_, rfl, hf, fun _ => ⟨fb, hv, rfl, hb⟩⟩
set_option maxHeartbeats 4000000 in
set_option maxRecDepth 100000 in
theorem verified_calls (A0 : Option Addr) (c0 : Nat) (names : List ByteArray) (A1 : Option Addr) (c1 : Nat) (curs : List ByteArray) (A2 : Option Addr) (c2 : Nat) (pool : List Int) (hor cel slo sta : Int) (A7 : Option Addr) (c7 : Nat) (days : List S41) (w : World) (hr0 : Kd.C Kd.string w A0 names.length names) (hc0 : names.length ≤ c0) (hr1 : Kd.C Kd.string w A1 curs.length curs) (hc1 : curs.length ≤ c1) (hr2 : Kd.C (Kd.int .i64) w A2 pool.length pool) (hc2 : pool.length ≤ c2) (hr7 : Kd.C k41 w A7 days.length days) (hc7 : days.length ≤ c7) (hpl : pool.length ≤ 100000000000000) (hdl : ∀ s ∈ days, s.f1.length ≤ 10000000000000) (G : TabW w) :
    Calls Tryd.prog 28 #[.agg #[.slice A0 names.length c0, .slice A1 curs.length c1, .slice A2 pool.length c2, .int .i64 hor, .int .i64 cel, .int .i64 slo, .int .i64 sta, .slice A7 days.length c7]] w (VerPost (verifyP names curs pool hor cel slo sta days) w) := by
  obtain ⟨cr, hcr⟩ : ∃ x, canonP names curs pool hor cel slo sta days = x := ⟨_, rfl⟩
  have CC : Aside0 (∀ W, Fr w W [] → Calls Tryd.prog 34 #[.agg #[.slice A0 names.length c0, .slice A1 curs.length c1, .slice A2 pool.length c2, .int .i64 hor, .int .i64 cel, .int .i64 slo, .int .i64 sta, .slice A7 days.length c7]] W (CanonPost cr W)) := ⟨fun W h => hcr ▸ canon_calls A0 c0 names A1 c1 curs A2 c2 pool hor cel slo sta A7 c7 days W (Kd.C_below hr0 h.below) hc0 (Kd.C_below hr1 h.below) hc1 (Kd.C_below hr2 h.below) hc2 (Kd.C_below hr7 h.below) hc7 hpl hdl (G.fr0 h)⟩
  have HC7 := Aside0.mk hr7
  have HG := Aside0.mk G
  clear hr0 hr1 hr2 hr7 G hdl
  have HCR := Aside0.mk hcr
  clear hcr
  by_cases hz : cr = 0
  case neg =>
    have hz1 : (cr == 0) = false := by simpa using hz
    have hz2 : (cr != 0) = true := by simpa using hz
    have HV : Aside0 (verifyP names curs pool hor cel slo sta days = ((cr, 0, 0), acc0)) := ⟨by unfold verifyP; rw [HCR.out, if_pos hz]⟩
    have HZ := Aside0.mk hz
    clear hz
    go_enter Tryd.func28, Tryd.ntmps28
    go_wp2_with (first | (go_at_call 34; (with_reducible refine (CC.out _ ?_).mono ?_); (next => exact FQ); rintro e W1 ⟨rfl, hF1⟩))
    refine bodyPost_ret (results_tmp4 rfl _ _ _) rfl ?_
    exact ver_err (.pointer none) HV.out (Fr.trans (M := []) FQ hF1 (by simp)) HZ.out
  case pos =>
    subst hz
    obtain ⟨hlb, hdn, hok⟩ := canonP_ok HCR.out
    have LK : Aside0 (∀ W, Fr w W [] → Calls Tryd.prog 35 #[.agg #[.slice A0 names.length c0, .slice A1 curs.length c1, .slice A2 pool.length c2, .int .i64 hor, .int .i64 cel, .int .i64 slo, .int .i64 sta, .slice A7 days.length c7]] W (LookPost days W)) := ⟨fun W h => look_calls _ _ _ _ _ _ _ A7 c7 days W (Kd.C_below HC7.out h.below) hc7 hdn hok (HG.out.fr0 h)⟩
    obtain ⟨R, hR⟩ : ∃ R, lookDays days 0 acc0 = R := ⟨_, rfl⟩
    obtain ⟨⟨err, dd, kk⟩, acc⟩ := R
    have HR := Aside0.mk hR
    clear hR hok hlb
    have hup := Tryd.underlying26
    by_cases he : err = 0
    case neg =>
      have hz1 : (err == 0) = false := by simpa using he
      have hz2 : (err != 0) = true := by simpa using he
      have HV : Aside0 (verifyP names curs pool hor cel slo sta days = ((err, dd, kk), acc)) := ⟨by unfold verifyP; rw [if_neg (by rw [HCR.out]; simp), HR.out, if_pos he]⟩
      have HE := Aside0.mk he
      clear he
      go_enter Tryd.func28, Tryd.ntmps28
      go_wp2_with (first | (go_at_call 34; (with_reducible refine (CC.out _ ?_).mono ?_); (next => exact FQ); rintro e W1 ⟨rfl, hF1⟩; have HB1 := Aside0.mk (hF1.blk (g := w.heap.size) (blk_newN rfl) (by simp)); have HF1 : Aside0 (Fr w W1 []) := ⟨Fr.trans (M := []) FQ hF1 (by simp)⟩; have e0 : W1.cell? ⟨w.heap.size, 0, none⟩ = some (.slice A0 names.length c0) := blk_cell HB1.out 0; have e1 : W1.cell? ⟨w.heap.size, 1, none⟩ = some (.slice A1 curs.length c1) := blk_cell HB1.out 1; have e2 : W1.cell? ⟨w.heap.size, 2, none⟩ = some (.slice A2 pool.length c2) := blk_cell HB1.out 2; have e3 : W1.cell? ⟨w.heap.size, 3, none⟩ = some (.int .i64 hor) := blk_cell HB1.out 3; have e4 : W1.cell? ⟨w.heap.size, 4, none⟩ = some (.int .i64 cel) := blk_cell HB1.out 4; have e5 : W1.cell? ⟨w.heap.size, 5, none⟩ = some (.int .i64 slo) := blk_cell HB1.out 5; have e6 : W1.cell? ⟨w.heap.size, 6, none⟩ = some (.int .i64 sta) := blk_cell HB1.out 6; have e7 : W1.cell? ⟨w.heap.size, 7, none⟩ = some (.slice A7 days.length c7) := blk_cell HB1.out 7; clear hF1) | (go_at_call 35; (with_reducible refine (LK.out _ ?_).mono ?_); (next => exact HF1.out); rintro e W2 ⟨fb, hv, rfl, hF2, hok2⟩; rw [HR.out] at hok2; rw [HR.out]; have HF2 : Aside0 (Fr w W2 []) := ⟨HF1.out.trans hF2 (by simp)⟩; have HB2 := Aside0.mk (hF2.blk HB1.out (by simp)); have HOK2 := Aside0.mk hok2; clear hF2 hok2))
      refine bodyPost_ret (results_tmp4 rfl _ _ _) rfl ?_
      exact ver_err (.pointer none) HV.out HF2.out HE.out
    case pos =>
      subst he
      by_cases ha : sta = acc.stack
      case neg =>
        have ta : (sta != acc.stack) = true := by simpa using ha
        have HV : Aside0 (verifyP names curs pool hor cel slo sta days = ((147, days.length, 0), acc)) := ⟨by unfold verifyP; rw [if_neg (by rw [HCR.out]; simp), HR.out, if_neg (by simp), if_pos (Or.inl ha)]⟩
        clear ha
        go_enter Tryd.func28, Tryd.ntmps28
        go_wp2_with (first | (go_at_call 34; (with_reducible refine (CC.out _ ?_).mono ?_); (next => exact FQ); rintro e W1 ⟨rfl, hF1⟩; have HB1 := Aside0.mk (hF1.blk (g := w.heap.size) (blk_newN rfl) (by simp)); have HF1 : Aside0 (Fr w W1 []) := ⟨Fr.trans (M := []) FQ hF1 (by simp)⟩; have e0 : W1.cell? ⟨w.heap.size, 0, none⟩ = some (.slice A0 names.length c0) := blk_cell HB1.out 0; have e1 : W1.cell? ⟨w.heap.size, 1, none⟩ = some (.slice A1 curs.length c1) := blk_cell HB1.out 1; have e2 : W1.cell? ⟨w.heap.size, 2, none⟩ = some (.slice A2 pool.length c2) := blk_cell HB1.out 2; have e3 : W1.cell? ⟨w.heap.size, 3, none⟩ = some (.int .i64 hor) := blk_cell HB1.out 3; have e4 : W1.cell? ⟨w.heap.size, 4, none⟩ = some (.int .i64 cel) := blk_cell HB1.out 4; have e5 : W1.cell? ⟨w.heap.size, 5, none⟩ = some (.int .i64 slo) := blk_cell HB1.out 5; have e6 : W1.cell? ⟨w.heap.size, 6, none⟩ = some (.int .i64 sta) := blk_cell HB1.out 6; have e7 : W1.cell? ⟨w.heap.size, 7, none⟩ = some (.slice A7 days.length c7) := blk_cell HB1.out 7; clear hF1) | (go_at_call 35; (with_reducible refine (LK.out _ ?_).mono ?_); (next => exact HF1.out); rintro e W2 ⟨fb, hv, rfl, hF2, hok2⟩; rw [HR.out] at hok2; rw [HR.out]; have HF2 : Aside0 (Fr w W2 []) := ⟨HF1.out.trans hF2 (by simp)⟩; have HB2 := Aside0.mk (hF2.blk HB1.out (by simp)); have HOK2 := Aside0.mk hok2; clear hF2 hok2))
        have p4 : W2.cell? ⟨w.heap.size, 4, none⟩ = some (.int .i64 cel) := blk_cell HB2.out 4
        have p5 : W2.cell? ⟨w.heap.size, 5, none⟩ = some (.int .i64 slo) := blk_cell HB2.out 5
        have p6 : W2.cell? ⟨w.heap.size, 6, none⟩ = some (.int .i64 sta) := blk_cell HB2.out 6
        have p7 : W2.cell? ⟨w.heap.size, 7, none⟩ = some (.slice A7 days.length c7) := blk_cell HB2.out 7
        have hfb := (HOK2.out trivial).1
        have q0 : W2.cell? ⟨fb, 0, none⟩ = some (.int .i64 acc.stack) := blk_cell hfb 0
        have q4 : W2.cell? ⟨fb, 4, none⟩ = some (.int .i64 acc.slots) := blk_cell hfb 4
        have q5 : W2.cell? ⟨fb, 5, none⟩ = some (.int .i64 acc.cell) := blk_cell hfb 5
        have HFB := Aside0.mk hfb
        clear hfb
        go_region_held3 (fun w' => w'.cell? ⟨w.heap.size, 4, none⟩ = some (.int .i64 cel) ∧ w'.cell? ⟨w.heap.size, 5, none⟩ = some (.int .i64 slo) ∧ w'.cell? ⟨w.heap.size, 6, none⟩ = some (.int .i64 sta) ∧ w'.cell? ⟨fb, 0, none⟩ = some (.int .i64 acc.stack) ∧ w'.cell? ⟨fb, 4, none⟩ = some (.int .i64 acc.slots) ∧ w'.cell? ⟨fb, 5, none⟩ = some (.int .i64 acc.cell)) (first | exact ⟨p4, p5, p6, q0, q4, q5⟩ | go_keep) (fail)
        go_wp2
        go_region_held3 (fun w' => w'.cell? ⟨w.heap.size, 7, none⟩ = some (.slice A7 days.length c7)) (first | exact p7 | go_keep) (fail)
        go_wp2
        refine bodyPost_ret (results_tmp4 rfl _ _ _) rfl ?_
        exact ver_err (.pointer none) HV.out (by (with_reducible (repeat (first | exact Fr.refl _ _ | refine Fr.drew ?_ | refine Fr.drewN ?_ _ | refine Fr.alloc ?_ _ | refine Fr.setCell ?_ _ _ ?_))); exact HF2.out) (by decide)
      case pos =>
        have ta : (sta != acc.stack) = false := by simpa using ha
        by_cases hb : slo = acc.slots
        case neg =>
          have tb : (slo != acc.slots) = true := by simpa using hb
          have HV : Aside0 (verifyP names curs pool hor cel slo sta days = ((147, days.length, 0), acc)) := ⟨by unfold verifyP; rw [if_neg (by rw [HCR.out]; simp), HR.out, if_neg (by simp), if_pos (Or.inr (Or.inl hb))]⟩
          clear ha
          clear hb
          go_enter Tryd.func28, Tryd.ntmps28
          go_wp2_with (first | (go_at_call 34; (with_reducible refine (CC.out _ ?_).mono ?_); (next => exact FQ); rintro e W1 ⟨rfl, hF1⟩; have HB1 := Aside0.mk (hF1.blk (g := w.heap.size) (blk_newN rfl) (by simp)); have HF1 : Aside0 (Fr w W1 []) := ⟨Fr.trans (M := []) FQ hF1 (by simp)⟩; have e0 : W1.cell? ⟨w.heap.size, 0, none⟩ = some (.slice A0 names.length c0) := blk_cell HB1.out 0; have e1 : W1.cell? ⟨w.heap.size, 1, none⟩ = some (.slice A1 curs.length c1) := blk_cell HB1.out 1; have e2 : W1.cell? ⟨w.heap.size, 2, none⟩ = some (.slice A2 pool.length c2) := blk_cell HB1.out 2; have e3 : W1.cell? ⟨w.heap.size, 3, none⟩ = some (.int .i64 hor) := blk_cell HB1.out 3; have e4 : W1.cell? ⟨w.heap.size, 4, none⟩ = some (.int .i64 cel) := blk_cell HB1.out 4; have e5 : W1.cell? ⟨w.heap.size, 5, none⟩ = some (.int .i64 slo) := blk_cell HB1.out 5; have e6 : W1.cell? ⟨w.heap.size, 6, none⟩ = some (.int .i64 sta) := blk_cell HB1.out 6; have e7 : W1.cell? ⟨w.heap.size, 7, none⟩ = some (.slice A7 days.length c7) := blk_cell HB1.out 7; clear hF1) | (go_at_call 35; (with_reducible refine (LK.out _ ?_).mono ?_); (next => exact HF1.out); rintro e W2 ⟨fb, hv, rfl, hF2, hok2⟩; rw [HR.out] at hok2; rw [HR.out]; have HF2 : Aside0 (Fr w W2 []) := ⟨HF1.out.trans hF2 (by simp)⟩; have HB2 := Aside0.mk (hF2.blk HB1.out (by simp)); have HOK2 := Aside0.mk hok2; clear hF2 hok2))
          have p4 : W2.cell? ⟨w.heap.size, 4, none⟩ = some (.int .i64 cel) := blk_cell HB2.out 4
          have p5 : W2.cell? ⟨w.heap.size, 5, none⟩ = some (.int .i64 slo) := blk_cell HB2.out 5
          have p6 : W2.cell? ⟨w.heap.size, 6, none⟩ = some (.int .i64 sta) := blk_cell HB2.out 6
          have p7 : W2.cell? ⟨w.heap.size, 7, none⟩ = some (.slice A7 days.length c7) := blk_cell HB2.out 7
          have hfb := (HOK2.out trivial).1
          have q0 : W2.cell? ⟨fb, 0, none⟩ = some (.int .i64 acc.stack) := blk_cell hfb 0
          have q4 : W2.cell? ⟨fb, 4, none⟩ = some (.int .i64 acc.slots) := blk_cell hfb 4
          have q5 : W2.cell? ⟨fb, 5, none⟩ = some (.int .i64 acc.cell) := blk_cell hfb 5
          have HFB := Aside0.mk hfb
          clear hfb
          go_region_held3 (fun w' => w'.cell? ⟨w.heap.size, 4, none⟩ = some (.int .i64 cel) ∧ w'.cell? ⟨w.heap.size, 5, none⟩ = some (.int .i64 slo) ∧ w'.cell? ⟨w.heap.size, 6, none⟩ = some (.int .i64 sta) ∧ w'.cell? ⟨fb, 0, none⟩ = some (.int .i64 acc.stack) ∧ w'.cell? ⟨fb, 4, none⟩ = some (.int .i64 acc.slots) ∧ w'.cell? ⟨fb, 5, none⟩ = some (.int .i64 acc.cell)) (first | exact ⟨p4, p5, p6, q0, q4, q5⟩ | go_keep) (fail)
          go_wp2
          go_region_held3 (fun w' => w'.cell? ⟨w.heap.size, 4, none⟩ = some (.int .i64 cel) ∧ w'.cell? ⟨w.heap.size, 5, none⟩ = some (.int .i64 slo) ∧ w'.cell? ⟨w.heap.size, 6, none⟩ = some (.int .i64 sta) ∧ w'.cell? ⟨fb, 0, none⟩ = some (.int .i64 acc.stack) ∧ w'.cell? ⟨fb, 4, none⟩ = some (.int .i64 acc.slots) ∧ w'.cell? ⟨fb, 5, none⟩ = some (.int .i64 acc.cell)) (first | exact ⟨p4, p5, p6, q0, q4, q5⟩ | go_keep) (fail)
          go_wp2
          go_region_held3 (fun w' => w'.cell? ⟨w.heap.size, 7, none⟩ = some (.slice A7 days.length c7)) (first | exact p7 | go_keep) (fail)
          go_wp2
          refine bodyPost_ret (results_tmp4 rfl _ _ _) rfl ?_
          exact ver_err (.pointer none) HV.out (by (with_reducible (repeat (first | exact Fr.refl _ _ | refine Fr.drew ?_ | refine Fr.drewN ?_ _ | refine Fr.alloc ?_ _ | refine Fr.setCell ?_ _ _ ?_))); exact HF2.out) (by decide)
        case pos =>
          have tb : (slo != acc.slots) = false := by simpa using hb
          by_cases hc : cel = acc.cell
          case neg =>
            have tc : (cel != acc.cell) = true := by simpa using hc
            have HV : Aside0 (verifyP names curs pool hor cel slo sta days = ((147, days.length, 0), acc)) := ⟨by unfold verifyP; rw [if_neg (by rw [HCR.out]; simp), HR.out, if_neg (by simp), if_pos (Or.inr (Or.inr hc))]⟩
            clear ha
            clear hb
            clear hc
            go_enter Tryd.func28, Tryd.ntmps28
            go_wp2_with (first | (go_at_call 34; (with_reducible refine (CC.out _ ?_).mono ?_); (next => exact FQ); rintro e W1 ⟨rfl, hF1⟩; have HB1 := Aside0.mk (hF1.blk (g := w.heap.size) (blk_newN rfl) (by simp)); have HF1 : Aside0 (Fr w W1 []) := ⟨Fr.trans (M := []) FQ hF1 (by simp)⟩; have e0 : W1.cell? ⟨w.heap.size, 0, none⟩ = some (.slice A0 names.length c0) := blk_cell HB1.out 0; have e1 : W1.cell? ⟨w.heap.size, 1, none⟩ = some (.slice A1 curs.length c1) := blk_cell HB1.out 1; have e2 : W1.cell? ⟨w.heap.size, 2, none⟩ = some (.slice A2 pool.length c2) := blk_cell HB1.out 2; have e3 : W1.cell? ⟨w.heap.size, 3, none⟩ = some (.int .i64 hor) := blk_cell HB1.out 3; have e4 : W1.cell? ⟨w.heap.size, 4, none⟩ = some (.int .i64 cel) := blk_cell HB1.out 4; have e5 : W1.cell? ⟨w.heap.size, 5, none⟩ = some (.int .i64 slo) := blk_cell HB1.out 5; have e6 : W1.cell? ⟨w.heap.size, 6, none⟩ = some (.int .i64 sta) := blk_cell HB1.out 6; have e7 : W1.cell? ⟨w.heap.size, 7, none⟩ = some (.slice A7 days.length c7) := blk_cell HB1.out 7; clear hF1) | (go_at_call 35; (with_reducible refine (LK.out _ ?_).mono ?_); (next => exact HF1.out); rintro e W2 ⟨fb, hv, rfl, hF2, hok2⟩; rw [HR.out] at hok2; rw [HR.out]; have HF2 : Aside0 (Fr w W2 []) := ⟨HF1.out.trans hF2 (by simp)⟩; have HB2 := Aside0.mk (hF2.blk HB1.out (by simp)); have HOK2 := Aside0.mk hok2; clear hF2 hok2))
            have p4 : W2.cell? ⟨w.heap.size, 4, none⟩ = some (.int .i64 cel) := blk_cell HB2.out 4
            have p5 : W2.cell? ⟨w.heap.size, 5, none⟩ = some (.int .i64 slo) := blk_cell HB2.out 5
            have p6 : W2.cell? ⟨w.heap.size, 6, none⟩ = some (.int .i64 sta) := blk_cell HB2.out 6
            have p7 : W2.cell? ⟨w.heap.size, 7, none⟩ = some (.slice A7 days.length c7) := blk_cell HB2.out 7
            have hfb := (HOK2.out trivial).1
            have q0 : W2.cell? ⟨fb, 0, none⟩ = some (.int .i64 acc.stack) := blk_cell hfb 0
            have q4 : W2.cell? ⟨fb, 4, none⟩ = some (.int .i64 acc.slots) := blk_cell hfb 4
            have q5 : W2.cell? ⟨fb, 5, none⟩ = some (.int .i64 acc.cell) := blk_cell hfb 5
            have HFB := Aside0.mk hfb
            clear hfb
            go_region_held3 (fun w' => w'.cell? ⟨w.heap.size, 4, none⟩ = some (.int .i64 cel) ∧ w'.cell? ⟨w.heap.size, 5, none⟩ = some (.int .i64 slo) ∧ w'.cell? ⟨w.heap.size, 6, none⟩ = some (.int .i64 sta) ∧ w'.cell? ⟨fb, 0, none⟩ = some (.int .i64 acc.stack) ∧ w'.cell? ⟨fb, 4, none⟩ = some (.int .i64 acc.slots) ∧ w'.cell? ⟨fb, 5, none⟩ = some (.int .i64 acc.cell)) (first | exact ⟨p4, p5, p6, q0, q4, q5⟩ | go_keep) (fail)
            go_wp2
            go_region_held3 (fun w' => w'.cell? ⟨w.heap.size, 4, none⟩ = some (.int .i64 cel) ∧ w'.cell? ⟨w.heap.size, 5, none⟩ = some (.int .i64 slo) ∧ w'.cell? ⟨w.heap.size, 6, none⟩ = some (.int .i64 sta) ∧ w'.cell? ⟨fb, 0, none⟩ = some (.int .i64 acc.stack) ∧ w'.cell? ⟨fb, 4, none⟩ = some (.int .i64 acc.slots) ∧ w'.cell? ⟨fb, 5, none⟩ = some (.int .i64 acc.cell)) (first | exact ⟨p4, p5, p6, q0, q4, q5⟩ | go_keep) (fail)
            go_wp2
            go_region_held3 (fun w' => w'.cell? ⟨w.heap.size, 4, none⟩ = some (.int .i64 cel) ∧ w'.cell? ⟨w.heap.size, 5, none⟩ = some (.int .i64 slo) ∧ w'.cell? ⟨w.heap.size, 6, none⟩ = some (.int .i64 sta) ∧ w'.cell? ⟨fb, 0, none⟩ = some (.int .i64 acc.stack) ∧ w'.cell? ⟨fb, 4, none⟩ = some (.int .i64 acc.slots) ∧ w'.cell? ⟨fb, 5, none⟩ = some (.int .i64 acc.cell)) (first | exact ⟨p4, p5, p6, q0, q4, q5⟩ | go_keep) (fail)
            go_wp2
            go_region_held3 (fun w' => w'.cell? ⟨w.heap.size, 7, none⟩ = some (.slice A7 days.length c7)) (first | exact p7 | go_keep) (fail)
            go_wp2
            refine bodyPost_ret (results_tmp4 rfl _ _ _) rfl ?_
            exact ver_err (.pointer none) HV.out (by (with_reducible (repeat (first | exact Fr.refl _ _ | refine Fr.drew ?_ | refine Fr.drewN ?_ _ | refine Fr.alloc ?_ _ | refine Fr.setCell ?_ _ _ ?_))); exact HF2.out) (by decide)
          case pos =>
            have tc : (cel != acc.cell) = false := by simpa using hc
            have HV : Aside0 (verifyP names curs pool hor cel slo sta days = ((0, 0, 0), acc)) := ⟨by unfold verifyP; rw [if_neg (by rw [HCR.out]; simp), HR.out, if_neg (by simp), if_neg (fun h => h.elim (fun h => h ha) (fun h => h.elim (fun h => h hb) (fun h => h hc)))]⟩
            clear ha hb hc
            go_enter Tryd.func28, Tryd.ntmps28
            go_wp2_with (first | (go_at_call 34; (with_reducible refine (CC.out _ ?_).mono ?_); (next => exact FQ); rintro e W1 ⟨rfl, hF1⟩; have HB1 := Aside0.mk (hF1.blk (g := w.heap.size) (blk_newN rfl) (by simp)); have HF1 : Aside0 (Fr w W1 []) := ⟨Fr.trans (M := []) FQ hF1 (by simp)⟩; have e0 : W1.cell? ⟨w.heap.size, 0, none⟩ = some (.slice A0 names.length c0) := blk_cell HB1.out 0; have e1 : W1.cell? ⟨w.heap.size, 1, none⟩ = some (.slice A1 curs.length c1) := blk_cell HB1.out 1; have e2 : W1.cell? ⟨w.heap.size, 2, none⟩ = some (.slice A2 pool.length c2) := blk_cell HB1.out 2; have e3 : W1.cell? ⟨w.heap.size, 3, none⟩ = some (.int .i64 hor) := blk_cell HB1.out 3; have e4 : W1.cell? ⟨w.heap.size, 4, none⟩ = some (.int .i64 cel) := blk_cell HB1.out 4; have e5 : W1.cell? ⟨w.heap.size, 5, none⟩ = some (.int .i64 slo) := blk_cell HB1.out 5; have e6 : W1.cell? ⟨w.heap.size, 6, none⟩ = some (.int .i64 sta) := blk_cell HB1.out 6; have e7 : W1.cell? ⟨w.heap.size, 7, none⟩ = some (.slice A7 days.length c7) := blk_cell HB1.out 7; clear hF1) | (go_at_call 35; (with_reducible refine (LK.out _ ?_).mono ?_); (next => exact HF1.out); rintro e W2 ⟨fb, hv, rfl, hF2, hok2⟩; rw [HR.out] at hok2; rw [HR.out]; have HF2 : Aside0 (Fr w W2 []) := ⟨HF1.out.trans hF2 (by simp)⟩; have HB2 := Aside0.mk (hF2.blk HB1.out (by simp)); have HOK2 := Aside0.mk hok2; clear hF2 hok2))
            have p4 : W2.cell? ⟨w.heap.size, 4, none⟩ = some (.int .i64 cel) := blk_cell HB2.out 4
            have p5 : W2.cell? ⟨w.heap.size, 5, none⟩ = some (.int .i64 slo) := blk_cell HB2.out 5
            have p6 : W2.cell? ⟨w.heap.size, 6, none⟩ = some (.int .i64 sta) := blk_cell HB2.out 6
            have p7 : W2.cell? ⟨w.heap.size, 7, none⟩ = some (.slice A7 days.length c7) := blk_cell HB2.out 7
            have hfb := (HOK2.out trivial).1
            have q0 : W2.cell? ⟨fb, 0, none⟩ = some (.int .i64 acc.stack) := blk_cell hfb 0
            have q4 : W2.cell? ⟨fb, 4, none⟩ = some (.int .i64 acc.slots) := blk_cell hfb 4
            have q5 : W2.cell? ⟨fb, 5, none⟩ = some (.int .i64 acc.cell) := blk_cell hfb 5
            have HFB := Aside0.mk hfb
            clear hfb
            go_region_held3 (fun w' => w'.cell? ⟨w.heap.size, 4, none⟩ = some (.int .i64 cel) ∧ w'.cell? ⟨w.heap.size, 5, none⟩ = some (.int .i64 slo) ∧ w'.cell? ⟨w.heap.size, 6, none⟩ = some (.int .i64 sta) ∧ w'.cell? ⟨fb, 0, none⟩ = some (.int .i64 acc.stack) ∧ w'.cell? ⟨fb, 4, none⟩ = some (.int .i64 acc.slots) ∧ w'.cell? ⟨fb, 5, none⟩ = some (.int .i64 acc.cell)) (first | exact ⟨p4, p5, p6, q0, q4, q5⟩ | go_keep) (fail)
            go_wp2
            go_region_held3 (fun w' => w'.cell? ⟨w.heap.size, 4, none⟩ = some (.int .i64 cel) ∧ w'.cell? ⟨w.heap.size, 5, none⟩ = some (.int .i64 slo) ∧ w'.cell? ⟨w.heap.size, 6, none⟩ = some (.int .i64 sta) ∧ w'.cell? ⟨fb, 0, none⟩ = some (.int .i64 acc.stack) ∧ w'.cell? ⟨fb, 4, none⟩ = some (.int .i64 acc.slots) ∧ w'.cell? ⟨fb, 5, none⟩ = some (.int .i64 acc.cell)) (first | exact ⟨p4, p5, p6, q0, q4, q5⟩ | go_keep) (fail)
            go_wp2
            go_region_held3 (fun w' => w'.cell? ⟨w.heap.size, 4, none⟩ = some (.int .i64 cel) ∧ w'.cell? ⟨w.heap.size, 5, none⟩ = some (.int .i64 slo) ∧ w'.cell? ⟨w.heap.size, 6, none⟩ = some (.int .i64 sta) ∧ w'.cell? ⟨fb, 0, none⟩ = some (.int .i64 acc.stack) ∧ w'.cell? ⟨fb, 4, none⟩ = some (.int .i64 acc.slots) ∧ w'.cell? ⟨fb, 5, none⟩ = some (.int .i64 acc.cell)) (first | exact ⟨p4, p5, p6, q0, q4, q5⟩ | go_keep) (fail)
            go_wp2
            refine bodyPost_ret (results_tmp4 rfl _ _ _) rfl ?_
            exact ver_ok fb hv HV.out (by (with_reducible (repeat (first | exact Fr.refl _ _ | refine Fr.drew ?_ | refine Fr.drewN ?_ _ | refine Fr.alloc ?_ _ | refine Fr.setCell ?_ _ _ ?_))); exact HF2.out) (by (repeat (first | exact HFB.out | apply blk_drew)))
end Go.Proofs.YtmfbdmjgkcijcaaDoor.H
