/- verified, Verify. -/
import Derived.Test.YtpoehkacfmljcaaGreatDoorZV
import Derived.Test.YtpoehkacfmljcaaGreatDoorZHY
import Derived.Test.YtpoehkacfmljcaaGreatDoorZRA
set_option maxHeartbeats 4000000
set_option maxRecDepth 100000
namespace Go.Proofs.YtpoehkacfmljcaaGreatDoor.H
open Go.RowKit Go.Proofs.YtpoehkacfmljcaaGreatDoorW.PrintWords Go.Proofs.YtpoehkacfmljcaaGreatDoorW.PrintLast Go.Proofs.YtpoehkacfmljcaaGreatDoorW.PrintMore
open Go.ChangeMaps (setBlock)
attribute [local go_sem] max2_int min2_int max_two min_two max_three min_three max_four min_four
set_option linter.unusedVariables false
set_option linter.unusedSimpArgs false
open Go.Proofs.YtpoehkacfmljcaaGreatDoor.M
theorem kRow_le : ∀ i, i < 29 → (kRow i).2.2.1 ≤ 1000000 := by
 have h : ∀ i : Fin 29, (kRow i).2.2.1 ≤ 1000000 := by decide
 intro i hi
 exact h ⟨i, hi⟩
theorem valid_ok {x : S113} (h : validC x.f0 x.f1 x.f2 = 0) : InstrOk x := by
 unfold validC at h
 split at h
 ·rename_i h9
  have := kRow_le x.f0.toNat (by omega)
  exact ⟨h9.1, h9.2.1, h9.2.2.1, by omega⟩
 ·exact absurd h (by decide)
theorem dayRun_ok {cel slo : Int} {code : List S113} : ∀ (m k : Nat) (b b' : BL), dayRun cel slo code m k b = (true, b') → ∀ j, k ≤ j → j < k + m → validC (code.getD j z113).f0 (code.getD j z113).f1 (code.getD j z113).f2 = 0
 | 0, _, _, _, _ => fun j h1 h2 => by omega
 | m + 1, k, b, b', h => by
  intro j h1 h2
  unfold dayRun at h
  split at h
  ·rename_i h9
   rcases Nat.lt_or_ge k j with h3 | h3
   ·exact dayRun_ok m (k + 1) _ b' h j (by omega) (by omega)
   ·obtain rfl : j = k := by omega
    unfold dayStep at h9
    split at h9
    ·exact absurd h9 (by simp)
    ·rename_i h8; simpa using h8
  ·rename_i h9
   rw [h] at h9
   exact absurd rfl h9
theorem dayU_ok {cel slo : Int} {s : S54} {b : BL} (h : (dayU cel slo s.f1 b).1 = true) (hl : s.f1.length ≤ 1000000) : 2 ≤ s.f1.length ∧ DayOk s := by
 obtain ⟨R, hR⟩ : ∃ R, dayU cel slo s.f1 b = R := ⟨_, rfl⟩
 obtain ⟨rb, b2⟩ := R
 rw [hR] at h
 simp only at h
 subst h
 unfold dayU at hR
 split at hR
 ·exact absurd (congrArg (·.1) hR) (by simp)
 ·rename_i h2
  have := dayRun_ok _ _ _ _ hR
  refine ⟨by omega, by omega, hl, fun x hx => ?_⟩
  obtain ⟨j, hj, rfl⟩ := List.getElem_of_mem hx
  have h3 := this j (by omega) (by omega)
  rw [List.getD_eq_getElem?_getD, List.getElem?_eq_getElem hj] at h3
  exact valid_ok h3
theorem canonDays_ok {hor cel slo : Int} : ∀ (days : List S54) (cnt last : Int) (b b' : BL), canonDays hor cel slo days cnt last b = some b' → 0 ≤ cnt → cnt ≤ 262144 → (days.length : Int) ≤ 262144 - cnt ∧ ∀ s ∈ days, DayOk s
 | [], cnt, _, _, _, _, _, hc => ⟨by simp; omega, by simp⟩
 | s :: rest, cnt, last, b, b', h, h0, hc => by
  unfold canonDays at h
  split at h
  ·cases h
  split at h
  ·cases h
  split at h
  ·cases h
  split at h
  ·cases h
  rename_i h1 h2 h3 h4
  have h4' : (dayU cel slo s.f1 b).1 = true := by simpa using h4
  have hd := dayU_ok h4' (by omega)
  have ih := canonDays_ok rest _ _ _ _ h (by omega) (by omega)
  refine ⟨by rw [List.length_cons]; omega, fun x hx => ?_⟩
  rcases List.mem_cons.1 hx with rfl | hx
  ·exact hd.2
  ·exact ih.2 x hx
theorem canonP_ok {names curs : List ByteArray} {pool : List Int} {hor cel slo sta : Int} {days : List S54} (h : canonP names curs pool hor cel slo sta days = 0) : listsB names curs pool hor cel slo sta = true ∧ days.length ≤ 1000000 ∧ ∀ s ∈ days, DayOk s := by
 unfold canonP at h
 split at h
 ·exact absurd h (by decide)
 rename_i hl
 split at h
 ·exact absurd h (by decide)
 ·rename_i b hb
  have := canonDays_ok _ _ _ _ _ hb (by omega) (by omega)
  exact ⟨by simpa using hl, by omega, this.2⟩
def verifyP (names curs : List ByteArray) (pool : List Int) (hor cel slo sta : Int) (days : List S54) : (Int × Nat × Nat) × Acc :=
 if canonP names curs pool hor cel slo sta days ≠ 0 then ((canonP names curs pool hor cel slo sta days, 0, 0), acc0) else
 if (lookDays days 0 acc0).1.1 ≠ 0 then lookDays days 0 acc0 else
 if sta ≠ (lookDays days 0 acc0).2.stack ∨ slo ≠ (lookDays days 0 acc0).2.slots ∨ cel ≠ (lookDays days 0 acc0).2.cell then ((147, days.length, 0), (lookDays days 0 acc0).2) else ((0, 0, 0), (lookDays days 0 acc0).2)
def VerPost (r : (Int × Nat × Nat) × Acc) (w : World) (e : Ending) (w' : World) : Prop :=
 ∃ pv, e = .returned (.tuple #[pv, .int .i64 r.1.2.1, .int .i64 r.1.2.2, .int .i64 r.1.1]) ∧ Fr w w' [] ∧ (r.1.1 = 0 → ∃ fb hv, pv = .pointer (some ⟨fb, 0, none⟩) ∧ w'.heap[fb]? = some (.cells (r.2.cells hv) 141 (0, 0)))
theorem ver_err {r : (Int × Nat × Nat) × Acc} {w W : World} {d k : Nat} {err : Int} {acc : Acc} (pv : Value) (h : r = ((err, d, k), acc)) (hf : Fr w W []) (hz : err ≠ 0) : VerPost r w (.returned (.tuple #[pv, .int .i64 d, .int .i64 k, .int .i64 err])) W := by
 subst h
 exact ⟨pv, rfl, hf, fun h => absurd h hz⟩
theorem ver_ok {r : (Int × Nat × Nat) × Acc} {w W : World} {acc : Acc} (fb : Nat) (hv : Value) (h : r = ((0, 0, 0), acc)) (hf : Fr w W []) (hb : W.heap[fb]? = some (.cells (acc.cells hv) 141 (0, 0))) : VerPost r w (.returned (.tuple #[.pointer (some ⟨fb, 0, none⟩), .int .i64 0, .int .i64 0, .int .i64 0])) W := by
 subst h
 exact ⟨_, rfl, hf, fun _ => ⟨fb, hv, rfl, hb⟩⟩
theorem verified_calls (A0 : Option Addr) (c0 : Nat) (names : List ByteArray) (A1 : Option Addr) (c1 : Nat) (curs : List ByteArray) (A2 : Option Addr) (c2 : Nat) (pool : List Int) (hor cel slo sta : Int) (A7 : Option Addr) (c7 : Nat) (days : List S54) (w : World) (hr0 : Kd.C Kd.string w A0 names.length names) (hc0 : names.length ≤ c0) (hr1 : Kd.C Kd.string w A1 curs.length curs) (hc1 : curs.length ≤ c1) (hr2 : Kd.C (Kd.int .i64) w A2 pool.length pool) (hc2 : pool.length ≤ c2) (hr7 : Kd.C k54 w A7 days.length days) (hc7 : days.length ≤ c7) (hpl : pool.length ≤ 100000000000000) (hdl : ∀ s ∈ days, s.f1.length ≤ 10000000000000) (G : TabW w) :
  Calls Tryz.prog 77 #[.agg #[.slice A0 names.length c0, .slice A1 curs.length c1, .slice A2 pool.length c2, .int .i64 hor, .int .i64 cel, .int .i64 slo, .int .i64 sta, .slice A7 days.length c7]] w (VerPost (verifyP names curs pool hor cel slo sta days) w) := by
 obtain ⟨cr, hcr⟩ : ∃ x, canonP names curs pool hor cel slo sta days = x := ⟨_, rfl⟩
 have CC : Aside0 (∀ W, Fr w W [] → Calls Tryz.prog 38 #[.agg #[.slice A0 names.length c0, .slice A1 curs.length c1, .slice A2 pool.length c2, .int .i64 hor, .int .i64 cel, .int .i64 slo, .int .i64 sta, .slice A7 days.length c7]] W (CanonPost cr W)) := ⟨fun W h => hcr ▸ canon_calls A0 c0 names A1 c1 curs A2 c2 pool hor cel slo sta A7 c7 days W (Kd.C_below hr0 h.below) hc0 (Kd.C_below hr1 h.below) hc1 (Kd.C_below hr2 h.below) hc2 (Kd.C_below hr7 h.below) hc7 hpl hdl (G.fr0 h)⟩
 have HC7 := AsM hr7
 have HG := AsM G
 clear hr0 hr1 hr2 hr7 G hdl
 have HCR := AsM hcr
 clear hcr
 by_cases hz : cr = 0
 case neg =>
  have hz1 : (cr == 0) = false := by simpa using hz
  have hz2 : (cr != 0) = true := by simpa using hz
  have HV : Aside0 (verifyP names curs pool hor cel slo sta days = ((cr, 0, 0), acc0)) := ⟨by unfold verifyP; rw [HCR.out, if_pos hz]⟩
  have HZ := AsM hz
  clear hz
  go_enter Tryz.func77, Tryz.ntmps77
  go_wp2_with (first | (go_at_call 38; (with_reducible refine (CC.out _ ?_).mono ?_); (next => exact FQ); rintro e W1 ⟨rfl, hF1⟩))
  refine bodyPost_ret (results_tmp4 rfl _ _ _) rfl ?_
  exact ver_err (.pointer none) HV.out (Fr.trans (M := []) FQ hF1 (by simp)) HZ.out
 case pos =>
  subst hz
  obtain ⟨hlb, hdn, hok⟩ := canonP_ok HCR.out
  have LK : Aside0 (∀ W, Fr w W [] → Calls Tryz.prog 111 #[.agg #[.slice A0 names.length c0, .slice A1 curs.length c1, .slice A2 pool.length c2, .int .i64 hor, .int .i64 cel, .int .i64 slo, .int .i64 sta, .slice A7 days.length c7]] W (LookPost days W)) := ⟨fun W h => look_calls _ _ _ _ _ _ _ A7 c7 days W (Kd.C_below HC7.out h.below) hc7 hdn hok (HG.out.fr0 h)⟩
  obtain ⟨R, hR⟩ : ∃ R, lookDays days 0 acc0 = R := ⟨_, rfl⟩
  obtain ⟨⟨err, dd, kk⟩, acc⟩ := R
  have HR := AsM hR
  clear hR hok hlb
  have hup := Tryz.underlying26
  by_cases he : err = 0
  case neg =>
   have hz1 : (err == 0) = false := by simpa using he
   have hz2 : (err != 0) = true := by simpa using he
   have HV : Aside0 (verifyP names curs pool hor cel slo sta days = ((err, dd, kk), acc)) := ⟨by unfold verifyP; rw [if_neg (by rw [HCR.out]; simp), HR.out, if_pos he]⟩
   have HE := AsM he
   clear he
   go_enter Tryz.func77, Tryz.ntmps77
   go_wp2_with (first | (go_at_call 38; (with_reducible refine (CC.out _ ?_).mono ?_); (next => exact FQ); rintro e W1 ⟨rfl, hF1⟩; have HB1 := AsM (hF1.blk (g := w.heap.size) (blk_newN rfl) (by simp)); have HF1 : Aside0 (Fr w W1 []) := ⟨Fr.trans (M := []) FQ hF1 (by simp)⟩; have e0 : W1.cell? ⟨w.heap.size, 0, none⟩ = some (.slice A0 names.length c0) := blk_cell HB1.out 0; have e1 : W1.cell? ⟨w.heap.size, 1, none⟩ = some (.slice A1 curs.length c1) := blk_cell HB1.out 1; have e2 : W1.cell? ⟨w.heap.size, 2, none⟩ = some (.slice A2 pool.length c2) := blk_cell HB1.out 2; have e3 : W1.cell? ⟨w.heap.size, 3, none⟩ = some (.int .i64 hor) := blk_cell HB1.out 3; have e4 : W1.cell? ⟨w.heap.size, 4, none⟩ = some (.int .i64 cel) := blk_cell HB1.out 4; have e5 : W1.cell? ⟨w.heap.size, 5, none⟩ = some (.int .i64 slo) := blk_cell HB1.out 5; have e6 : W1.cell? ⟨w.heap.size, 6, none⟩ = some (.int .i64 sta) := blk_cell HB1.out 6; have e7 : W1.cell? ⟨w.heap.size, 7, none⟩ = some (.slice A7 days.length c7) := blk_cell HB1.out 7; clear hF1) | (go_at_call 111; (with_reducible refine (LK.out _ ?_).mono ?_); (next => exact HF1.out); rintro e W2 ⟨fb, hv, rfl, hF2, hok2⟩; rw [HR.out] at hok2; rw [HR.out]; have HF2 : Aside0 (Fr w W2 []) := ⟨HF1.out.trans hF2 (by simp)⟩; have HB2 := AsM (hF2.blk HB1.out (by simp)); have HOK2 := AsM hok2; clear hF2 hok2))
   refine bodyPost_ret (results_tmp4 rfl _ _ _) rfl ?_
   exact ver_err (.pointer none) HV.out HF2.out HE.out
  case pos =>
   subst he
   by_cases ha : sta = acc.stack
   case neg =>
    have ta : (sta != acc.stack) = true := by simpa using ha
    have HV : Aside0 (verifyP names curs pool hor cel slo sta days = ((147, days.length, 0), acc)) := ⟨by unfold verifyP; rw [if_neg (by rw [HCR.out]; simp), HR.out, if_neg (by simp), if_pos (Or.inl ha)]⟩
    clear ha
    go_enter Tryz.func77, Tryz.ntmps77
    go_wp2_with (first | (go_at_call 38; (with_reducible refine (CC.out _ ?_).mono ?_); (next => exact FQ); rintro e W1 ⟨rfl, hF1⟩; have HB1 := AsM (hF1.blk (g := w.heap.size) (blk_newN rfl) (by simp)); have HF1 : Aside0 (Fr w W1 []) := ⟨Fr.trans (M := []) FQ hF1 (by simp)⟩; have e0 : W1.cell? ⟨w.heap.size, 0, none⟩ = some (.slice A0 names.length c0) := blk_cell HB1.out 0; have e1 : W1.cell? ⟨w.heap.size, 1, none⟩ = some (.slice A1 curs.length c1) := blk_cell HB1.out 1; have e2 : W1.cell? ⟨w.heap.size, 2, none⟩ = some (.slice A2 pool.length c2) := blk_cell HB1.out 2; have e3 : W1.cell? ⟨w.heap.size, 3, none⟩ = some (.int .i64 hor) := blk_cell HB1.out 3; have e4 : W1.cell? ⟨w.heap.size, 4, none⟩ = some (.int .i64 cel) := blk_cell HB1.out 4; have e5 : W1.cell? ⟨w.heap.size, 5, none⟩ = some (.int .i64 slo) := blk_cell HB1.out 5; have e6 : W1.cell? ⟨w.heap.size, 6, none⟩ = some (.int .i64 sta) := blk_cell HB1.out 6; have e7 : W1.cell? ⟨w.heap.size, 7, none⟩ = some (.slice A7 days.length c7) := blk_cell HB1.out 7; clear hF1) | (go_at_call 111; (with_reducible refine (LK.out _ ?_).mono ?_); (next => exact HF1.out); rintro e W2 ⟨fb, hv, rfl, hF2, hok2⟩; rw [HR.out] at hok2; rw [HR.out]; have HF2 : Aside0 (Fr w W2 []) := ⟨HF1.out.trans hF2 (by simp)⟩; have HB2 := AsM (hF2.blk HB1.out (by simp)); have HOK2 := AsM hok2; clear hF2 hok2))
    have p4 : W2.cell? ⟨w.heap.size, 4, none⟩ = some (.int .i64 cel) := blk_cell HB2.out 4
    have p5 : W2.cell? ⟨w.heap.size, 5, none⟩ = some (.int .i64 slo) := blk_cell HB2.out 5
    have p6 : W2.cell? ⟨w.heap.size, 6, none⟩ = some (.int .i64 sta) := blk_cell HB2.out 6
    have p7 : W2.cell? ⟨w.heap.size, 7, none⟩ = some (.slice A7 days.length c7) := blk_cell HB2.out 7
    have hfb := (HOK2.out trivial).1
    have q0 : W2.cell? ⟨fb, 0, none⟩ = some (.int .i64 acc.stack) := blk_cell hfb 0
    have q4 : W2.cell? ⟨fb, 4, none⟩ = some (.int .i64 acc.slots) := blk_cell hfb 4
    have q5 : W2.cell? ⟨fb, 5, none⟩ = some (.int .i64 acc.cell) := blk_cell hfb 5
    have HFB := AsM hfb
    clear hfb
    go_region_held3 (fun w' => w'.cell? ⟨w.heap.size, 4, none⟩ = some (.int .i64 cel) ∧ w'.cell? ⟨w.heap.size, 5, none⟩ = some (.int .i64 slo) ∧ w'.cell? ⟨w.heap.size, 6, none⟩ = some (.int .i64 sta) ∧ w'.cell? ⟨fb, 0, none⟩ = some (.int .i64 acc.stack) ∧ w'.cell? ⟨fb, 4, none⟩ = some (.int .i64 acc.slots) ∧ w'.cell? ⟨fb, 5, none⟩ = some (.int .i64 acc.cell)) (first | exact ⟨p4, p5, p6, q0, q4, q5⟩ | go_keep) (fail)
    go_wp2
    go_region_held3 (fun w' => w'.cell? ⟨w.heap.size, 7, none⟩ = some (.slice A7 days.length c7)) (first | exact p7 | go_keep) (fail)
    go_wp2
    refine bodyPost_ret (results_tmp4 rfl _ _ _) rfl ?_
    exact ver_err (.pointer none) HV.out (FX HF2.out) (by decide)
   case pos =>
    have ta : (sta != acc.stack) = false := by simpa using ha
    by_cases hb : slo = acc.slots
    case neg =>
     have tb : (slo != acc.slots) = true := by simpa using hb
     have HV : Aside0 (verifyP names curs pool hor cel slo sta days = ((147, days.length, 0), acc)) := ⟨by unfold verifyP; rw [if_neg (by rw [HCR.out]; simp), HR.out, if_neg (by simp), if_pos (Or.inr (Or.inl hb))]⟩
     clear ha
     clear hb
     go_enter Tryz.func77, Tryz.ntmps77
     go_wp2_with (first | (go_at_call 38; (with_reducible refine (CC.out _ ?_).mono ?_); (next => exact FQ); rintro e W1 ⟨rfl, hF1⟩; have HB1 := AsM (hF1.blk (g := w.heap.size) (blk_newN rfl) (by simp)); have HF1 : Aside0 (Fr w W1 []) := ⟨Fr.trans (M := []) FQ hF1 (by simp)⟩; have e0 : W1.cell? ⟨w.heap.size, 0, none⟩ = some (.slice A0 names.length c0) := blk_cell HB1.out 0; have e1 : W1.cell? ⟨w.heap.size, 1, none⟩ = some (.slice A1 curs.length c1) := blk_cell HB1.out 1; have e2 : W1.cell? ⟨w.heap.size, 2, none⟩ = some (.slice A2 pool.length c2) := blk_cell HB1.out 2; have e3 : W1.cell? ⟨w.heap.size, 3, none⟩ = some (.int .i64 hor) := blk_cell HB1.out 3; have e4 : W1.cell? ⟨w.heap.size, 4, none⟩ = some (.int .i64 cel) := blk_cell HB1.out 4; have e5 : W1.cell? ⟨w.heap.size, 5, none⟩ = some (.int .i64 slo) := blk_cell HB1.out 5; have e6 : W1.cell? ⟨w.heap.size, 6, none⟩ = some (.int .i64 sta) := blk_cell HB1.out 6; have e7 : W1.cell? ⟨w.heap.size, 7, none⟩ = some (.slice A7 days.length c7) := blk_cell HB1.out 7; clear hF1) | (go_at_call 111; (with_reducible refine (LK.out _ ?_).mono ?_); (next => exact HF1.out); rintro e W2 ⟨fb, hv, rfl, hF2, hok2⟩; rw [HR.out] at hok2; rw [HR.out]; have HF2 : Aside0 (Fr w W2 []) := ⟨HF1.out.trans hF2 (by simp)⟩; have HB2 := AsM (hF2.blk HB1.out (by simp)); have HOK2 := AsM hok2; clear hF2 hok2))
     have p4 : W2.cell? ⟨w.heap.size, 4, none⟩ = some (.int .i64 cel) := blk_cell HB2.out 4
     have p5 : W2.cell? ⟨w.heap.size, 5, none⟩ = some (.int .i64 slo) := blk_cell HB2.out 5
     have p6 : W2.cell? ⟨w.heap.size, 6, none⟩ = some (.int .i64 sta) := blk_cell HB2.out 6
     have p7 : W2.cell? ⟨w.heap.size, 7, none⟩ = some (.slice A7 days.length c7) := blk_cell HB2.out 7
     have hfb := (HOK2.out trivial).1
     have q0 : W2.cell? ⟨fb, 0, none⟩ = some (.int .i64 acc.stack) := blk_cell hfb 0
     have q4 : W2.cell? ⟨fb, 4, none⟩ = some (.int .i64 acc.slots) := blk_cell hfb 4
     have q5 : W2.cell? ⟨fb, 5, none⟩ = some (.int .i64 acc.cell) := blk_cell hfb 5
     have HFB := AsM hfb
     clear hfb
     go_region_held3 (fun w' => w'.cell? ⟨w.heap.size, 4, none⟩ = some (.int .i64 cel) ∧ w'.cell? ⟨w.heap.size, 5, none⟩ = some (.int .i64 slo) ∧ w'.cell? ⟨w.heap.size, 6, none⟩ = some (.int .i64 sta) ∧ w'.cell? ⟨fb, 0, none⟩ = some (.int .i64 acc.stack) ∧ w'.cell? ⟨fb, 4, none⟩ = some (.int .i64 acc.slots) ∧ w'.cell? ⟨fb, 5, none⟩ = some (.int .i64 acc.cell)) (first | exact ⟨p4, p5, p6, q0, q4, q5⟩ | go_keep) (fail)
     go_wp2
     go_region_held3 (fun w' => w'.cell? ⟨w.heap.size, 4, none⟩ = some (.int .i64 cel) ∧ w'.cell? ⟨w.heap.size, 5, none⟩ = some (.int .i64 slo) ∧ w'.cell? ⟨w.heap.size, 6, none⟩ = some (.int .i64 sta) ∧ w'.cell? ⟨fb, 0, none⟩ = some (.int .i64 acc.stack) ∧ w'.cell? ⟨fb, 4, none⟩ = some (.int .i64 acc.slots) ∧ w'.cell? ⟨fb, 5, none⟩ = some (.int .i64 acc.cell)) (first | exact ⟨p4, p5, p6, q0, q4, q5⟩ | go_keep) (fail)
     go_wp2
     go_region_held3 (fun w' => w'.cell? ⟨w.heap.size, 7, none⟩ = some (.slice A7 days.length c7)) (first | exact p7 | go_keep) (fail)
     go_wp2
     refine bodyPost_ret (results_tmp4 rfl _ _ _) rfl ?_
     exact ver_err (.pointer none) HV.out (FX HF2.out) (by decide)
    case pos =>
     have tb : (slo != acc.slots) = false := by simpa using hb
     by_cases hc : cel = acc.cell
     case neg =>
      have tc : (cel != acc.cell) = true := by simpa using hc
      have HV : Aside0 (verifyP names curs pool hor cel slo sta days = ((147, days.length, 0), acc)) := ⟨by unfold verifyP; rw [if_neg (by rw [HCR.out]; simp), HR.out, if_neg (by simp), if_pos (Or.inr (Or.inr hc))]⟩
      clear ha
      clear hb
      clear hc
      go_enter Tryz.func77, Tryz.ntmps77
      go_wp2_with (first | (go_at_call 38; (with_reducible refine (CC.out _ ?_).mono ?_); (next => exact FQ); rintro e W1 ⟨rfl, hF1⟩; have HB1 := AsM (hF1.blk (g := w.heap.size) (blk_newN rfl) (by simp)); have HF1 : Aside0 (Fr w W1 []) := ⟨Fr.trans (M := []) FQ hF1 (by simp)⟩; have e0 : W1.cell? ⟨w.heap.size, 0, none⟩ = some (.slice A0 names.length c0) := blk_cell HB1.out 0; have e1 : W1.cell? ⟨w.heap.size, 1, none⟩ = some (.slice A1 curs.length c1) := blk_cell HB1.out 1; have e2 : W1.cell? ⟨w.heap.size, 2, none⟩ = some (.slice A2 pool.length c2) := blk_cell HB1.out 2; have e3 : W1.cell? ⟨w.heap.size, 3, none⟩ = some (.int .i64 hor) := blk_cell HB1.out 3; have e4 : W1.cell? ⟨w.heap.size, 4, none⟩ = some (.int .i64 cel) := blk_cell HB1.out 4; have e5 : W1.cell? ⟨w.heap.size, 5, none⟩ = some (.int .i64 slo) := blk_cell HB1.out 5; have e6 : W1.cell? ⟨w.heap.size, 6, none⟩ = some (.int .i64 sta) := blk_cell HB1.out 6; have e7 : W1.cell? ⟨w.heap.size, 7, none⟩ = some (.slice A7 days.length c7) := blk_cell HB1.out 7; clear hF1) | (go_at_call 111; (with_reducible refine (LK.out _ ?_).mono ?_); (next => exact HF1.out); rintro e W2 ⟨fb, hv, rfl, hF2, hok2⟩; rw [HR.out] at hok2; rw [HR.out]; have HF2 : Aside0 (Fr w W2 []) := ⟨HF1.out.trans hF2 (by simp)⟩; have HB2 := AsM (hF2.blk HB1.out (by simp)); have HOK2 := AsM hok2; clear hF2 hok2))
      have p4 : W2.cell? ⟨w.heap.size, 4, none⟩ = some (.int .i64 cel) := blk_cell HB2.out 4
      have p5 : W2.cell? ⟨w.heap.size, 5, none⟩ = some (.int .i64 slo) := blk_cell HB2.out 5
      have p6 : W2.cell? ⟨w.heap.size, 6, none⟩ = some (.int .i64 sta) := blk_cell HB2.out 6
      have p7 : W2.cell? ⟨w.heap.size, 7, none⟩ = some (.slice A7 days.length c7) := blk_cell HB2.out 7
      have hfb := (HOK2.out trivial).1
      have q0 : W2.cell? ⟨fb, 0, none⟩ = some (.int .i64 acc.stack) := blk_cell hfb 0
      have q4 : W2.cell? ⟨fb, 4, none⟩ = some (.int .i64 acc.slots) := blk_cell hfb 4
      have q5 : W2.cell? ⟨fb, 5, none⟩ = some (.int .i64 acc.cell) := blk_cell hfb 5
      have HFB := AsM hfb
      clear hfb
      go_region_held3 (fun w' => w'.cell? ⟨w.heap.size, 4, none⟩ = some (.int .i64 cel) ∧ w'.cell? ⟨w.heap.size, 5, none⟩ = some (.int .i64 slo) ∧ w'.cell? ⟨w.heap.size, 6, none⟩ = some (.int .i64 sta) ∧ w'.cell? ⟨fb, 0, none⟩ = some (.int .i64 acc.stack) ∧ w'.cell? ⟨fb, 4, none⟩ = some (.int .i64 acc.slots) ∧ w'.cell? ⟨fb, 5, none⟩ = some (.int .i64 acc.cell)) (first | exact ⟨p4, p5, p6, q0, q4, q5⟩ | go_keep) (fail)
      go_wp2
      go_region_held3 (fun w' => w'.cell? ⟨w.heap.size, 4, none⟩ = some (.int .i64 cel) ∧ w'.cell? ⟨w.heap.size, 5, none⟩ = some (.int .i64 slo) ∧ w'.cell? ⟨w.heap.size, 6, none⟩ = some (.int .i64 sta) ∧ w'.cell? ⟨fb, 0, none⟩ = some (.int .i64 acc.stack) ∧ w'.cell? ⟨fb, 4, none⟩ = some (.int .i64 acc.slots) ∧ w'.cell? ⟨fb, 5, none⟩ = some (.int .i64 acc.cell)) (first | exact ⟨p4, p5, p6, q0, q4, q5⟩ | go_keep) (fail)
      go_wp2
      go_region_held3 (fun w' => w'.cell? ⟨w.heap.size, 4, none⟩ = some (.int .i64 cel) ∧ w'.cell? ⟨w.heap.size, 5, none⟩ = some (.int .i64 slo) ∧ w'.cell? ⟨w.heap.size, 6, none⟩ = some (.int .i64 sta) ∧ w'.cell? ⟨fb, 0, none⟩ = some (.int .i64 acc.stack) ∧ w'.cell? ⟨fb, 4, none⟩ = some (.int .i64 acc.slots) ∧ w'.cell? ⟨fb, 5, none⟩ = some (.int .i64 acc.cell)) (first | exact ⟨p4, p5, p6, q0, q4, q5⟩ | go_keep) (fail)
      go_wp2
      go_region_held3 (fun w' => w'.cell? ⟨w.heap.size, 7, none⟩ = some (.slice A7 days.length c7)) (first | exact p7 | go_keep) (fail)
      go_wp2
      refine bodyPost_ret (results_tmp4 rfl _ _ _) rfl ?_
      exact ver_err (.pointer none) HV.out (FX HF2.out) (by decide)
     case pos =>
      have tc : (cel != acc.cell) = false := by simpa using hc
      have HV : Aside0 (verifyP names curs pool hor cel slo sta days = ((0, 0, 0), acc)) := ⟨by unfold verifyP; rw [if_neg (by rw [HCR.out]; simp), HR.out, if_neg (by simp), if_neg (fun h => h.elim (fun h => h ha) (fun h => h.elim (fun h => h hb) (fun h => h hc)))]⟩
      clear ha hb hc
      go_enter Tryz.func77, Tryz.ntmps77
      go_wp2_with (first | (go_at_call 38; (with_reducible refine (CC.out _ ?_).mono ?_); (next => exact FQ); rintro e W1 ⟨rfl, hF1⟩; have HB1 := AsM (hF1.blk (g := w.heap.size) (blk_newN rfl) (by simp)); have HF1 : Aside0 (Fr w W1 []) := ⟨Fr.trans (M := []) FQ hF1 (by simp)⟩; have e0 : W1.cell? ⟨w.heap.size, 0, none⟩ = some (.slice A0 names.length c0) := blk_cell HB1.out 0; have e1 : W1.cell? ⟨w.heap.size, 1, none⟩ = some (.slice A1 curs.length c1) := blk_cell HB1.out 1; have e2 : W1.cell? ⟨w.heap.size, 2, none⟩ = some (.slice A2 pool.length c2) := blk_cell HB1.out 2; have e3 : W1.cell? ⟨w.heap.size, 3, none⟩ = some (.int .i64 hor) := blk_cell HB1.out 3; have e4 : W1.cell? ⟨w.heap.size, 4, none⟩ = some (.int .i64 cel) := blk_cell HB1.out 4; have e5 : W1.cell? ⟨w.heap.size, 5, none⟩ = some (.int .i64 slo) := blk_cell HB1.out 5; have e6 : W1.cell? ⟨w.heap.size, 6, none⟩ = some (.int .i64 sta) := blk_cell HB1.out 6; have e7 : W1.cell? ⟨w.heap.size, 7, none⟩ = some (.slice A7 days.length c7) := blk_cell HB1.out 7; clear hF1) | (go_at_call 111; (with_reducible refine (LK.out _ ?_).mono ?_); (next => exact HF1.out); rintro e W2 ⟨fb, hv, rfl, hF2, hok2⟩; rw [HR.out] at hok2; rw [HR.out]; have HF2 : Aside0 (Fr w W2 []) := ⟨HF1.out.trans hF2 (by simp)⟩; have HB2 := AsM (hF2.blk HB1.out (by simp)); have HOK2 := AsM hok2; clear hF2 hok2))
      have p4 : W2.cell? ⟨w.heap.size, 4, none⟩ = some (.int .i64 cel) := blk_cell HB2.out 4
      have p5 : W2.cell? ⟨w.heap.size, 5, none⟩ = some (.int .i64 slo) := blk_cell HB2.out 5
      have p6 : W2.cell? ⟨w.heap.size, 6, none⟩ = some (.int .i64 sta) := blk_cell HB2.out 6
      have p7 : W2.cell? ⟨w.heap.size, 7, none⟩ = some (.slice A7 days.length c7) := blk_cell HB2.out 7
      have hfb := (HOK2.out trivial).1
      have q0 : W2.cell? ⟨fb, 0, none⟩ = some (.int .i64 acc.stack) := blk_cell hfb 0
      have q4 : W2.cell? ⟨fb, 4, none⟩ = some (.int .i64 acc.slots) := blk_cell hfb 4
      have q5 : W2.cell? ⟨fb, 5, none⟩ = some (.int .i64 acc.cell) := blk_cell hfb 5
      have HFB := AsM hfb
      clear hfb
      go_region_held3 (fun w' => w'.cell? ⟨w.heap.size, 4, none⟩ = some (.int .i64 cel) ∧ w'.cell? ⟨w.heap.size, 5, none⟩ = some (.int .i64 slo) ∧ w'.cell? ⟨w.heap.size, 6, none⟩ = some (.int .i64 sta) ∧ w'.cell? ⟨fb, 0, none⟩ = some (.int .i64 acc.stack) ∧ w'.cell? ⟨fb, 4, none⟩ = some (.int .i64 acc.slots) ∧ w'.cell? ⟨fb, 5, none⟩ = some (.int .i64 acc.cell)) (first | exact ⟨p4, p5, p6, q0, q4, q5⟩ | go_keep) (fail)
      go_wp2
      go_region_held3 (fun w' => w'.cell? ⟨w.heap.size, 4, none⟩ = some (.int .i64 cel) ∧ w'.cell? ⟨w.heap.size, 5, none⟩ = some (.int .i64 slo) ∧ w'.cell? ⟨w.heap.size, 6, none⟩ = some (.int .i64 sta) ∧ w'.cell? ⟨fb, 0, none⟩ = some (.int .i64 acc.stack) ∧ w'.cell? ⟨fb, 4, none⟩ = some (.int .i64 acc.slots) ∧ w'.cell? ⟨fb, 5, none⟩ = some (.int .i64 acc.cell)) (first | exact ⟨p4, p5, p6, q0, q4, q5⟩ | go_keep) (fail)
      go_wp2
      go_region_held3 (fun w' => w'.cell? ⟨w.heap.size, 4, none⟩ = some (.int .i64 cel) ∧ w'.cell? ⟨w.heap.size, 5, none⟩ = some (.int .i64 slo) ∧ w'.cell? ⟨w.heap.size, 6, none⟩ = some (.int .i64 sta) ∧ w'.cell? ⟨fb, 0, none⟩ = some (.int .i64 acc.stack) ∧ w'.cell? ⟨fb, 4, none⟩ = some (.int .i64 acc.slots) ∧ w'.cell? ⟨fb, 5, none⟩ = some (.int .i64 acc.cell)) (first | exact ⟨p4, p5, p6, q0, q4, q5⟩ | go_keep) (fail)
      go_wp2
      refine bodyPost_ret (results_tmp4 rfl _ _ _) rfl ?_
      exact ver_ok fb hv HV.out (FX HF2.out) (by (repeat (first | exact HFB.out | apply blk_drew)))
theorem infoSec : (Tryz.prog.info? 50).map (fun i => (i.zero, i.size, i.bytes)) = some (some (.agg #[.int .i64 0, .slice none 0 0]), 2, 32) := by kernel_rfl
structure Prg where
 names : List ByteArray
 curs : List ByteArray
 pool : List Int
 hor : Nat
 cel : Nat
 slo : Nat
 sta : Nat
 days : List Seg
def Prg.body (p : Prg) (i : Nat) : List Int := match i with
 | 0 => textsL p.names
 | 1 => textsL p.curs
 | 2 => poolL p.pool p.pool.length
 | 3 => sizesL p.hor p.cel p.slo p.sta
 | _ => daysL p.days p.days.length
def Prg.secs (p : Prg) : List S50 := [⟨1, p.body 0⟩, ⟨2, p.body 1⟩, ⟨3, p.body 2⟩, ⟨4, p.body 3⟩, ⟨5, p.body 4⟩]
structure Prg.Ok (p : Prg) : Prop where
 names : Few p.names
 curs : Few p.curs
 pool : p.pool.length ≤ 1000000
 ints : ∀ x ∈ p.pool, -9223372036854775808 ≤ x ∧ x < 9223372036854775808
 hor : p.hor ≤ 1000000000
 cel : p.cel ≤ 1000000000
 slo : p.slo ≤ 1000000000
 sta : p.sta ≤ 1000000000
 days : DaysOk p.days
 dmost : p.days.length ≤ 3661
 nlen : (textsL p.names).length ≤ 1000000000000
 clen : (textsL p.curs).length ≤ 1000000000000
structure Prg.Lies (p : Prg) (w : World) (A0 : Option Addr) (A1 : Option Addr) (A2 : Option Addr) (A7 : Option Addr) : Prop where
 names : Kd.C Kd.string w A0 p.names.length p.names
 curs : Kd.C Kd.string w A1 p.curs.length p.curs
 pool : Kd.C (Kd.int .i64) w A2 p.pool.length p.pool
 days : Kd.C k54 w A7 p.days.length p.days
theorem dayU_code {cel slo : Int} {s : S54} {b : BL} (h : (dayU cel slo s.f1 b).1 = true) (hl : s.f1.length ≤ 262144) : CodeOk s.f1 := by
 obtain ⟨R, hR⟩ : ∃ R, dayU cel slo s.f1 b = R := ⟨_, rfl⟩
 obtain ⟨rb, b2⟩ := R
 rw [hR] at h
 simp only at h
 subst h
 unfold dayU at hR
 split at hR
 ·exact absurd (congrArg (·.1) hR) (by simp)
 ·rename_i h2
  have := dayRun_ok _ _ _ _ hR
  refine ⟨hl, fun x hx => ?_⟩
  obtain ⟨j, hj, rfl⟩ := List.getElem_of_mem hx
  have h3 := this j (by omega) (by omega)
  rw [List.getD_eq_getElem?_getD, List.getElem?_eq_getElem hj] at h3
  exact h3
theorem canonDays_code {hor cel slo : Int} : ∀ (days : List S54) (cnt last : Int) (b b' : BL), canonDays hor cel slo days cnt last b = some b' → last ≤ hor → 0 ≤ cnt → (days.length : Int) ≤ hor - last ∧ ∀ s ∈ days, CodeOk s.f1
 | [], cnt, _, _, _, _, _, hc => ⟨by simp; omega, by simp⟩
 | s :: rest, cnt, last, b, b', h, h0, hc => by
  unfold canonDays at h
  split at h
  ·cases h
  split at h
  ·cases h
  split at h
  ·cases h
  split at h
  ·cases h
  rename_i h1 h2 h3 h4
  have h4' : (dayU cel slo s.f1 b).1 = true := by simpa using h4
  have hd := dayU_code h4' (by omega)
  have ih := canonDays_code rest _ _ _ _ h (by omega) (by omega)
  refine ⟨by rw [List.length_cons]; omega, fun x hx => ?_⟩
  rcases List.mem_cons.1 hx with rfl | hx
  ·exact hd
  ·exact ih.2 x hx
theorem named_size {s : ByteArray} (h : namedB s = true) : s.size ≤ 31 := by
 unfold namedB at h
 simp only [Bool.and_eq_true, decide_eq_true_eq] at h
 omega
theorem cur_size {s : ByteArray} (h : curB s = true) : s.size = 3 := by
 unfold curB at h
 simp only [Bool.and_eq_true, decide_eq_true_eq] at h
 omega
theorem txts_small : ∀ (l : List ByteArray), (∀ s ∈ l, s.size ≤ 31) → (l.flatMap txtL).length ≤ l.length * 42
 | [], _ => by simp
 | s :: l, h => by
  have h1 := txts_small l (fun x hx => h x (List.mem_cons_of_mem _ hx))
  have h2 := h s List.mem_cons_self
  have h3 := uvar_len64 (x := s.size) (by omega)
  have h4 := sB_len s
  simp only [List.flatMap_cons, txtL, List.length_append, List.length_cons] at h1 ⊢
  omega
theorem textsL_small {l : List ByteArray} (h : ∀ s ∈ l, s.size ≤ 31) (hl : l.length ≤ 1000000000) : (textsL l).length ≤ 1000000000000 := by
 have h1 := txts_small l h
 have h2 := uvar_len64 (x := l.length) (by omega)
 unfold textsL
 rw [List.length_append]
 omega
theorem canonP_prg {names curs : List ByteArray} {pool : List Int} {hor cel slo sta : Int} {days : List S54} (h : canonP names curs pool hor cel slo sta days = 0) (hI : ∀ x ∈ pool, -9223372036854775808 ≤ x ∧ x < 9223372036854775808) :
  ∃ p : Prg, p.Ok ∧ p.names = names ∧ p.curs = curs ∧ p.pool = pool ∧ (p.hor : Int) = hor ∧ (p.cel : Int) = cel ∧ (p.slo : Int) = slo ∧ (p.sta : Int) = sta ∧ p.days = days ∧ names.length ≤ 64 ∧ p.cel ≤ 32768 ∧ p.hor ≤ 3660 := by
 unfold canonP at h
 split at h
 ·exact absurd h (by decide)
 rename_i hl
 split at h
 ·exact absurd h (by decide)
 rename_i b hb
 have hl : listsB names curs pool hor cel slo sta = true := by simpa using hl
 unfold listsB withinB at hl
 simp only [Bool.and_eq_true, decide_eq_true_eq, Bool.not_eq_true', decide_eq_false_iff_not, List.any_eq_false, Bool.not_eq_true', Bool.not_eq_false] at hl
 obtain ⟨⟨⟨⟨⟨⟨⟨⟨⟨⟨⟨h1, h2⟩, h3⟩, _⟩, _⟩, _⟩, h7⟩, h8⟩, h9⟩, h10⟩, h11⟩, h12⟩ := hl
 have hd := canonDays_code days _ _ _ _ hb (by omega) (by omega)
 refine ⟨⟨names, curs, pool, hor.toNat, cel.toNat, slo.toNat, sta.toNat, days⟩, ⟨⟨?_, fun s hs => ?_⟩, ⟨?_, fun s hs => ?_⟩, ?_, hI, ?_, ?_, ?_, ?_, ⟨?_, hd.2⟩, ?_, textsL_small (fun s hs => ?_) ?_, textsL_small (fun s hs => ?_) ?_⟩, rfl, rfl, rfl, ?_, ?_, ?_, ?_, rfl, ?_, ?_, ?_⟩
 all_goals (try simp only)
 all_goals (try omega)
 ·have := named_size (h7 s hs)
  omega
 ·have := cur_size (h8 s hs)
  omega
 ·have := named_size (h7 s hs)
  omega
 ·have := cur_size (h8 s hs)
  omega
theorem textsL_byte {l : List ByteArray} (h : Few l) : ∀ b ∈ textsL l, 0 ≤ b ∧ b < 256 := by
 intro b hb
 have := h.most
 rcases List.mem_append.1 hb with hb | hb
 ·exact uvar_byte64 (by omega) b hb
 ·exact txts_byte l h.len b hb
theorem poolL_byte {pool : List Int} (hI : ∀ x ∈ pool, -9223372036854775808 ≤ x ∧ x < 9223372036854775808) (hp : pool.length ≤ 1000000) (k : Nat) : ∀ b ∈ poolL pool k, 0 ≤ b ∧ b < 256 := by
 intro b hb
 rcases List.mem_append.1 hb with hb | hb
 ·exact uvar_byte64 (by omega) b hb
 ·obtain ⟨i, _, hb⟩ := List.mem_flatMap.1 hb
  unfold poolI at hb
  split at hb
  ·refine uvar_byte64 (zig_lt ?_) b hb
   cases pool with
   | nil => simp
   | cons x l => simpa using hI x List.mem_cons_self
  ·exact uvar_byte64 (by unfold poolD; omega) b hb
theorem sizesL_byte {hor cel slo sta : Nat} (h0 : hor ≤ 1000000000) (h1 : cel ≤ 1000000000) (h2 : slo ≤ 1000000000) (h3 : sta ≤ 1000000000) : ∀ b ∈ sizesL hor cel slo sta, 0 ≤ b ∧ b < 256 := by
 intro b hb
 obtain ⟨x, hx, hb⟩ := List.mem_flatMap.1 hb
 simp only [List.mem_cons, List.not_mem_nil, or_false] at hx
 exact uvar_byte64 (by omega) b hb
theorem daysL_byte {ds : List Seg} (h : DaysOk ds) (k : Nat) (hk : k ≤ ds.length) : ∀ b ∈ daysL ds k, 0 ≤ b ∧ b < 256 := by
 intro b hb
 have := h.most
 rcases List.mem_append.1 hb with hb | hb
 ·exact uvar_byte64 (by omega) b hb
 ·obtain ⟨i, hi, hb⟩ := List.mem_flatMap.1 hb
  have hi := List.mem_range.1 hi
  have hc := h.ok _ (seg_mem (ds := ds) (i := i) (by omega))
  have h1 := hc.most
  have h2 := hc.full
  unfold dayI at hb
  simp only [List.mem_append] at hb
  rcases hb with hb | hb | hb | hb
  ·exact uvar_byte64 (by unfold poolD; omega) b hb
  ·exact uvar_byte64 (by omega) b hb
  ·exact uvar_byte64 (by omega) b hb
  ·exact hc.byte b hb
theorem Prg.secsOk {p : Prg} (h : p.Ok) : Secs p.secs := by
 have e1 := poolL_len h.ints h.pool p.pool.length
 have e2 := sizes_len p.hor p.cel p.slo p.sta 4 h.hor h.cel h.slo h.sta
 have e3 := daysL_len h.days p.days.length (Nat.le_refl _)
 have h1 := h.pool
 have h2 := h.dmost
 refine ⟨by simp [Prg.secs], fun i hi => ?_, fun s hs => ?_, fun s hs => ?_⟩
 ·have hi : i < 5 := by simpa [Prg.secs] using hi
  have : i = 0 ∨ i = 1 ∨ i = 2 ∨ i = 3 ∨ i = 4 := by omega
  rcases this with rfl | rfl | rfl | rfl | rfl <;> rfl
 ·simp only [Prg.secs, List.mem_cons, List.not_mem_nil, or_false] at hs
  rcases hs with rfl | rfl | rfl | rfl | rfl
  ·exact textsL_byte h.names
  ·exact textsL_byte h.curs
  ·exact poolL_byte h.ints h.pool _
  ·exact sizesL_byte h.hor h.cel h.slo h.sta
  ·exact daysL_byte h.days _ (Nat.le_refl _)
 ·simp only [Prg.secs, List.mem_cons, List.not_mem_nil, or_false] at hs
  rcases hs with rfl | rfl | rfl | rfl | rfl
  ·exact h.nlen
  ·exact h.clen
  ·show (poolL p.pool p.pool.length).length ≤ _
   omega
  ·show (sizesL p.hor p.cel p.slo p.sta).length ≤ _
   have e4 : ([p.hor, p.cel, p.slo, p.sta].take 4).flatMap uvar = sizesL p.hor p.cel p.slo p.sta := rfl
   rw [e4] at e2
   omega
  ·show (daysL p.days p.days.length).length ≤ _
   omega
theorem fr_grown {a w w' : World} {v : Value} (hF : Fr a w []) (hg : w.grownBy w' v.ownBlock) (hb : ∀ k, v.ownBlock = some k → a.heap.size ≤ k) : Fr a w' [] :=
 ⟨hg.os.trans hF.os, hg.tape.trans hF.tape, hg.output.trans hF.output, Nat.le_trans hF.size hg.size, fun k hk _ => (hg.block k (Nat.lt_of_lt_of_le hk hF.size) (fun e => absurd (hb k e.symm) (by omega))).trans (hF.block k hk (by simp))⟩
theorem sec_M {a W0 W : World} {v s5 : Value} {body : List Int} (hB : Buf False W W0.heap.size v body) (ha : a.heap.size ≤ W0.heap.size) (h5 : ∀ k, s5.ownBlock = some k → k < W0.heap.size) (id : Int) : k50.M W a.heap.size (fun k => some k ≠ s5.ownBlock) ⟨id, body⟩ [.int .i64 id, v] :=
 k50_mkM _ _ _ ⟨id, body⟩ (Kd.R_of_own (Buf.own (hB.lower ha)) (fun k hk e => by have := (hB.blk k hk).1; have := h5 k e.symm; omega))
theorem iEncode_calls (p : Prg) (hp : p.Ok) (A0 : Option Addr) (c0 : Nat) (A1 : Option Addr) (c1 : Nat) (A2 : Option Addr) (c2 : Nat) (A7 : Option Addr) (c7 : Nat) (w : World) (G : TabW w) (hl : p.Lies w A0 A1 A2 A7)
  (hcan : ∀ W, Fr w W [] → Calls Tryz.prog 38 #[.agg #[.slice A0 p.names.length c0, .slice A1 p.curs.length c1, .slice A2 p.pool.length c2, .int .i64 p.hor, .int .i64 p.cel, .int .i64 p.slo, .int .i64 p.sta, .slice A7 p.days.length c7]] W fun e w' => e = .returned (.int .i64 0) ∧ Fr W w' []) :
  Calls Tryz.prog 23 #[.agg #[.slice A0 p.names.length c0, .slice A1 p.curs.length c1, .slice A2 p.pool.length c2, .int .i64 p.hor, .int .i64 p.cel, .int .i64 p.slo, .int .i64 p.sta, .slice A7 p.days.length c7]] w fun e w' => ∃ v, e = .returned (.tuple #[v, .int .i64 0]) ∧ Buf True w' w.heap.size v (sealL (sB ⟨#[80, 65, 89, 79, 70, 70, 49, 10]⟩) p.secs) ∧ Fr w w' [] := by
 have HCN := AsM hcan
 have HG := AsM G
 have HL := AsM hl
 have HP := AsM hp
 clear hcan G hl hp
 go_enter Tryz.func23, Tryz.ntmps23
 go_wp2_with (first
  | (go_at_call 38; ((with_reducible refine (HCN.out _ FQ).mono ?_); rintro e W1 ⟨rfl, hF⟩; have hk1 := hF.blk (blk_newN rfl) (by simp); have HK1 := AsM hk1; have HF1 : Aside0 (Fr w W1 []) := ⟨((Fr.refl w []).alloc _).tr hF⟩; clear hF hk1))
  | (go_at_call 39; ((with_reducible refine (inOrder_calls _).mono ?_); rintro e W2 ⟨rfl, ho, hF⟩; have HO2 := AsM ho; have HF2 : Aside0 (Fr w W2 []) := ⟨HF1.out.tr hF⟩; have HK2 := AsM (hF.bl HK1.out); clear ho hF)))
 obtain ⟨pb, hpb⟩ : ∃ pb, w.heap.size = pb := ⟨_, rfl⟩
 obtain ⟨ob, hob⟩ : ∃ ob, W1.heap.size = ob := ⟨_, rfl⟩
 rw [hpb] at HK2 ⊢
 rw [hob] at HO2 ⊢
 clear HK1 HF1
 go_loopg [5, 15] 5 (fun kq s5 s15 wr => ∃ k : Nat, s15 = .int .i64 k ∧ k ≤ 5 ∧ Aside0 (5 - k ≤ kq) ∧ Aside0 (Fr w wr []) ∧ Aside0 (Kd.R k50 50 wr w.heap.size (fun _ => True) s5 (p.secs.take k)) ∧ Aside0 (wr.heap[pb]? = some (.cells #[.slice A0 p.names.length c0, .slice A1 p.curs.length c1, .slice A2 p.pool.length c2, .int .i64 p.hor, .int .i64 p.cel, .int .i64 p.slo, .int .i64 p.sta, .slice A7 p.days.length c7] 26 (0, 0))) ∧ Aside0 (wr.heap[ob]? = some (.cells ordT 100 (0, 0))))
 case atStart => exact ⟨0, rfl, by omega, ⟨Nat.le_refl _⟩, HF2, ⟨Kd.R_nil _ _ _ _ _⟩, HK2, HO2⟩
 case round =>
  clear HF2 HK2 HO2
  obtain ⟨k, rfl, hk, HM, HF, HR, HK, HO⟩ := hrel
  have hkc : k = 0 ∨ k = 1 ∨ k = 2 ∨ k = 3 ∨ k = 4 ∨ k = 5 := by omega
  rcases hkc with rfl | rfl | rfl | rfl | rfl | rfl
  ·have o0 := blk_cell HO.out 0
   have o1 := blk_cell HO.out 1
   have o2 := blk_cell HO.out 2
   simp only [ordT] at o0 o1 o2
   have hus := Tryz.underlying100
   have hsec := Tryz.underlying50
   have e1 : (store ⟨wr.heap.size, 1, none⟩ (.func (.func 60) #[] #[])).run Tryz.prog (wr.alloc (.cells #[.int .i64 1, .nilFunc, .nilFunc] 100)) = .ok () (wr.alloc (.cells #[.int .i64 1, .func (.func 60) #[] #[], .nilFunc] 100)) := store_fun _ _ _ _ 1 _ (by decide)
   have e2 : (store ⟨wr.heap.size, 2, none⟩ (.func (.func 62) #[] #[])).run Tryz.prog (wr.alloc (.cells #[.int .i64 1, .func (.func 60) #[] #[], .nilFunc] 100)) = .ok () (wr.alloc (.cells #[.int .i64 1, .func (.func 60) #[] #[], .func (.func 62) #[] #[]] 100)) := store_fun _ _ _ _ 2 _ (by decide)
   go_wp2
   have k0 : (wr.alloc (.cells #[.int .i64 1, .func (.func 60) #[] #[], .func (.func 62) #[] #[]] 100)).cell? ⟨wr.heap.size, 0, none⟩ = some (.int .i64 1) := blk_cell (blk_newN rfl) 0
   have k1 : (wr.alloc (.cells #[.int .i64 1, .func (.func 60) #[] #[], .func (.func 62) #[] #[]] 100)).cell? ⟨wr.heap.size, 1, none⟩ = some (.func (.func 60) #[] #[]) := blk_cell (blk_newN rfl) 1
   have kb : (wr.alloc (.cells #[.int .i64 1, .func (.func 60) #[] #[], .func (.func 62) #[] #[]] 100)).heap[wr.heap.size]? = some (.cells #[.int .i64 1, .func (.func 60) #[] #[], .func (.func 62) #[] #[]] 100 (0, 0)) := blk_newN rfl
   clear e1 e2 o0 o1 o2
   obtain ⟨w9, h9⟩ : ∃ w9, wr.alloc (.cells #[.int .i64 1, .func (.func 60) #[] #[], .func (.func 62) #[] #[]] 100) = w9 := ⟨_, rfl⟩
   rw [h9] at k0 k1 kb ⊢
   have KB := AsM kb
   clear kb
   have hF9 : Fr wr w9 [] := h9 ▸ (Fr.refl wr []).alloc _
   have HF9 := AsM hF9
   have HS9 : Aside0 (∀ W, Fr w9 W [] → ∀ q, u5.ownBlock = some q → q < W.heap.size) := ⟨fun W h q hq => Nat.lt_of_lt_of_le (Kd.R_lt HR.out q hq) (Nat.le_trans hF9.size h.size)⟩
   have HA9 : Aside0 (∀ W, Fr w9 W [] → w.heap.size ≤ W.heap.size) := ⟨fun W h => (HF.out.trans (hF9.tr h) (by simp)).size⟩
   have CL : Aside0 (∀ W, Fr w9 W [] → Calls Tryz.prog 60 #[.pointer (some ⟨pb, 0, none⟩)] W fun e w' => ∃ v, e = .returned v ∧ Buf False w' W.heap.size v (p.body 0) ∧ Fr W w' []) := ⟨fun W h0 => by
    have h : Fr wr W [] := hF9.tr h0
    exact ord1_calls pb A0 c0 p.names _ _ _ _ _ _ _ W (h.bl HK.out) (Kd.C_below HL.out.names (HF.out.tr h).below) HP.out.names⟩
   clear hF9 h9
   go_region_held3 (fun w' => w'.cell? ⟨wr.heap.size, 0, none⟩ = some (.int .i64 1) ∧ w'.cell? ⟨wr.heap.size, 1, none⟩ = some (.func (.func 60) #[] #[])) (first | exact ⟨y0, y1⟩ | exact ⟨z0, z1⟩ | (refine ⟨frc (L := []) z0 ?_ List.not_mem_nil, frc (L := []) z1 ?_ List.not_mem_nil⟩ <;> exact FQ) | exact ⟨k0, k1⟩ | (refine ⟨frc (L := []) k0 ?_ List.not_mem_nil, frc (L := []) k1 ?_ List.not_mem_nil⟩ <;> exact FQ) | go_keep) (first
    | (go_at_call 60; (with_reducible refine (CL.out _ ?_).mono ?_); (next => exact FQ); rintro e W3 ⟨v3, rfl, hB3, hF3⟩; obtain ⟨B3, d3, rfl, _, _⟩ := hB3.reads; have HP3 := AsM (sec_M (a := w) hB3 (HA9.out _ FQ) (HS9.out _ FQ) 1); have zb := (Fr.trans (L := []) (M := []) FQ hF3 (by simp)).bl KB.out; obtain ⟨z0, z1⟩ := cc2 zb; have ZB := AsM zb; have HF3 : Aside0 (Fr wr W3 []) := ⟨HF9.out.trans (Fr.trans (L := []) (M := []) FQ hF3 (by simp)) (by simp)⟩; clear hB3 hF3 zb)
    | (refine Kd.R_append_step k50 (w0 := w) (W := W3) w.heap.size ?hw (.tmp 19) (.tmp 26) 51 50 (.agg #[.int .i64 0, .slice none 0 0]) 32 ?ho Tryz.underlying51 infoSec rfl (by decide) (by decide) u5 (p.secs.take 0) ⟨1, p.body 0⟩ [.int .i64 1, .slice B3 (p.body 0).length d3] (fun _ => True) (fun q => some q ≠ u5.ownBlock) ?hs ?hx ?hp (fun q h => ⟨trivial, h⟩) (fun _ _ => trivial) ?HO ?HB ?hbase ?hl ?_; (case hw => rfl); (case ho => rfl); (case hs => rfl); (case hx => rfl); (case hp => exact HP3.out); (case HO => exact Kd.R_below HR.out HF3.out.below); (case HB => exact (HF.out.tr HF3.out).below); (case hbase => exact (HF.out.tr HF3.out).size); (case hl => (simp [Prg.secs])); intro v4 w4 hR4 hb4 hg4 hat4; have HR4 := AsM hR4; have HF4 : Aside0 (Fr w w4 []) := ⟨fr_grown (HF.out.tr HF3.out) hg4 (Kd.R_base HR.out)⟩; have HK4 := AsM (blk_grown (HF3.out.bl HK.out) hg4 (Kd.R_ne HR.out HK.out (by decide))); have HO4 := AsM (blk_grown (HF3.out.bl HO.out) hg4 (Kd.R_ne HR.out HO.out (by decide))); have yb := blk_grown ZB.out hg4 (Kd.R_ne (Kd.R_below HR.out HF3.out.below) ZB.out (by decide)); obtain ⟨y0, y1⟩ := cc2 yb; clear yb; clear hR4 hb4 hg4 hat4)
    | fail)
   go_wp2
   go_roundg (5 - 1)
   case measure => have := HM.out; omega
   case rel => exact ⟨1, by go_num, by omega, ⟨Nat.le_refl _⟩, HF4, HR4, HK4, HO4⟩
  ·have o0 := blk_cell HO.out 3
   have o1 := blk_cell HO.out 4
   have o2 := blk_cell HO.out 5
   simp only [ordT] at o0 o1 o2
   have hus := Tryz.underlying100
   have hsec := Tryz.underlying50
   have e1 : (store ⟨wr.heap.size, 1, none⟩ (.func (.func 64) #[] #[])).run Tryz.prog (wr.alloc (.cells #[.int .i64 2, .nilFunc, .nilFunc] 100)) = .ok () (wr.alloc (.cells #[.int .i64 2, .func (.func 64) #[] #[], .nilFunc] 100)) := store_fun _ _ _ _ 1 _ (by decide)
   have e2 : (store ⟨wr.heap.size, 2, none⟩ (.func (.func 65) #[] #[])).run Tryz.prog (wr.alloc (.cells #[.int .i64 2, .func (.func 64) #[] #[], .nilFunc] 100)) = .ok () (wr.alloc (.cells #[.int .i64 2, .func (.func 64) #[] #[], .func (.func 65) #[] #[]] 100)) := store_fun _ _ _ _ 2 _ (by decide)
   go_wp2
   have k0 : (wr.alloc (.cells #[.int .i64 2, .func (.func 64) #[] #[], .func (.func 65) #[] #[]] 100)).cell? ⟨wr.heap.size, 0, none⟩ = some (.int .i64 2) := blk_cell (blk_newN rfl) 0
   have k1 : (wr.alloc (.cells #[.int .i64 2, .func (.func 64) #[] #[], .func (.func 65) #[] #[]] 100)).cell? ⟨wr.heap.size, 1, none⟩ = some (.func (.func 64) #[] #[]) := blk_cell (blk_newN rfl) 1
   have kb : (wr.alloc (.cells #[.int .i64 2, .func (.func 64) #[] #[], .func (.func 65) #[] #[]] 100)).heap[wr.heap.size]? = some (.cells #[.int .i64 2, .func (.func 64) #[] #[], .func (.func 65) #[] #[]] 100 (0, 0)) := blk_newN rfl
   clear e1 e2 o0 o1 o2
   obtain ⟨w9, h9⟩ : ∃ w9, wr.alloc (.cells #[.int .i64 2, .func (.func 64) #[] #[], .func (.func 65) #[] #[]] 100) = w9 := ⟨_, rfl⟩
   rw [h9] at k0 k1 kb ⊢
   have KB := AsM kb
   clear kb
   have hF9 : Fr wr w9 [] := h9 ▸ (Fr.refl wr []).alloc _
   have HF9 := AsM hF9
   have HS9 : Aside0 (∀ W, Fr w9 W [] → ∀ q, u5.ownBlock = some q → q < W.heap.size) := ⟨fun W h q hq => Nat.lt_of_lt_of_le (Kd.R_lt HR.out q hq) (Nat.le_trans hF9.size h.size)⟩
   have HA9 : Aside0 (∀ W, Fr w9 W [] → w.heap.size ≤ W.heap.size) := ⟨fun W h => (HF.out.trans (hF9.tr h) (by simp)).size⟩
   have CL : Aside0 (∀ W, Fr w9 W [] → Calls Tryz.prog 64 #[.pointer (some ⟨pb, 0, none⟩)] W fun e w' => ∃ v, e = .returned v ∧ Buf False w' W.heap.size v (p.body 1) ∧ Fr W w' []) := ⟨fun W h0 => by
    have h : Fr wr W [] := hF9.tr h0
    exact ord3_calls pb A1 c1 p.curs _ _ _ _ _ _ _ W (h.bl HK.out) (Kd.C_below HL.out.curs (HF.out.tr h).below) HP.out.curs⟩
   clear hF9 h9
   go_region_held3 (fun w' => w'.cell? ⟨wr.heap.size, 0, none⟩ = some (.int .i64 2) ∧ w'.cell? ⟨wr.heap.size, 1, none⟩ = some (.func (.func 64) #[] #[])) (first | exact ⟨y0, y1⟩ | exact ⟨z0, z1⟩ | (refine ⟨frc (L := []) z0 ?_ List.not_mem_nil, frc (L := []) z1 ?_ List.not_mem_nil⟩ <;> exact FQ) | exact ⟨k0, k1⟩ | (refine ⟨frc (L := []) k0 ?_ List.not_mem_nil, frc (L := []) k1 ?_ List.not_mem_nil⟩ <;> exact FQ) | go_keep) (first
    | (go_at_call 64; (with_reducible refine (CL.out _ ?_).mono ?_); (next => exact FQ); rintro e W3 ⟨v3, rfl, hB3, hF3⟩; obtain ⟨B3, d3, rfl, _, _⟩ := hB3.reads; have HP3 := AsM (sec_M (a := w) hB3 (HA9.out _ FQ) (HS9.out _ FQ) 2); have zb := (Fr.trans (L := []) (M := []) FQ hF3 (by simp)).bl KB.out; obtain ⟨z0, z1⟩ := cc2 zb; have ZB := AsM zb; have HF3 : Aside0 (Fr wr W3 []) := ⟨HF9.out.trans (Fr.trans (L := []) (M := []) FQ hF3 (by simp)) (by simp)⟩; clear hB3 hF3 zb)
    | (refine Kd.R_append_step k50 (w0 := w) (W := W3) w.heap.size ?hw (.tmp 19) (.tmp 26) 51 50 (.agg #[.int .i64 0, .slice none 0 0]) 32 ?ho Tryz.underlying51 infoSec rfl (by decide) (by decide) u5 (p.secs.take 1) ⟨2, p.body 1⟩ [.int .i64 2, .slice B3 (p.body 1).length d3] (fun _ => True) (fun q => some q ≠ u5.ownBlock) ?hs ?hx ?hp (fun q h => ⟨trivial, h⟩) (fun _ _ => trivial) ?HO ?HB ?hbase ?hl ?_; (case hw => rfl); (case ho => rfl); (case hs => rfl); (case hx => rfl); (case hp => exact HP3.out); (case HO => exact Kd.R_below HR.out HF3.out.below); (case HB => exact (HF.out.tr HF3.out).below); (case hbase => exact (HF.out.tr HF3.out).size); (case hl => (simp [Prg.secs])); intro v4 w4 hR4 hb4 hg4 hat4; have HR4 := AsM hR4; have HF4 : Aside0 (Fr w w4 []) := ⟨fr_grown (HF.out.tr HF3.out) hg4 (Kd.R_base HR.out)⟩; have HK4 := AsM (blk_grown (HF3.out.bl HK.out) hg4 (Kd.R_ne HR.out HK.out (by decide))); have HO4 := AsM (blk_grown (HF3.out.bl HO.out) hg4 (Kd.R_ne HR.out HO.out (by decide))); have yb := blk_grown ZB.out hg4 (Kd.R_ne (Kd.R_below HR.out HF3.out.below) ZB.out (by decide)); obtain ⟨y0, y1⟩ := cc2 yb; clear yb; clear hR4 hb4 hg4 hat4)
    | fail)
   go_wp2
   go_roundg (5 - 2)
   case measure => have := HM.out; omega
   case rel => exact ⟨2, by go_num, by omega, ⟨Nat.le_refl _⟩, HF4, HR4, HK4, HO4⟩
  ·have o0 := blk_cell HO.out 6
   have o1 := blk_cell HO.out 7
   have o2 := blk_cell HO.out 8
   simp only [ordT] at o0 o1 o2
   have hus := Tryz.underlying100
   have hsec := Tryz.underlying50
   have e1 : (store ⟨wr.heap.size, 1, none⟩ (.func (.func 66) #[] #[])).run Tryz.prog (wr.alloc (.cells #[.int .i64 3, .nilFunc, .nilFunc] 100)) = .ok () (wr.alloc (.cells #[.int .i64 3, .func (.func 66) #[] #[], .nilFunc] 100)) := store_fun _ _ _ _ 1 _ (by decide)
   have e2 : (store ⟨wr.heap.size, 2, none⟩ (.func (.func 67) #[] #[])).run Tryz.prog (wr.alloc (.cells #[.int .i64 3, .func (.func 66) #[] #[], .nilFunc] 100)) = .ok () (wr.alloc (.cells #[.int .i64 3, .func (.func 66) #[] #[], .func (.func 67) #[] #[]] 100)) := store_fun _ _ _ _ 2 _ (by decide)
   go_wp2
   have k0 : (wr.alloc (.cells #[.int .i64 3, .func (.func 66) #[] #[], .func (.func 67) #[] #[]] 100)).cell? ⟨wr.heap.size, 0, none⟩ = some (.int .i64 3) := blk_cell (blk_newN rfl) 0
   have k1 : (wr.alloc (.cells #[.int .i64 3, .func (.func 66) #[] #[], .func (.func 67) #[] #[]] 100)).cell? ⟨wr.heap.size, 1, none⟩ = some (.func (.func 66) #[] #[]) := blk_cell (blk_newN rfl) 1
   have kb : (wr.alloc (.cells #[.int .i64 3, .func (.func 66) #[] #[], .func (.func 67) #[] #[]] 100)).heap[wr.heap.size]? = some (.cells #[.int .i64 3, .func (.func 66) #[] #[], .func (.func 67) #[] #[]] 100 (0, 0)) := blk_newN rfl
   clear e1 e2 o0 o1 o2
   obtain ⟨w9, h9⟩ : ∃ w9, wr.alloc (.cells #[.int .i64 3, .func (.func 66) #[] #[], .func (.func 67) #[] #[]] 100) = w9 := ⟨_, rfl⟩
   rw [h9] at k0 k1 kb ⊢
   have KB := AsM kb
   clear kb
   have hF9 : Fr wr w9 [] := h9 ▸ (Fr.refl wr []).alloc _
   have HF9 := AsM hF9
   have HS9 : Aside0 (∀ W, Fr w9 W [] → ∀ q, u5.ownBlock = some q → q < W.heap.size) := ⟨fun W h q hq => Nat.lt_of_lt_of_le (Kd.R_lt HR.out q hq) (Nat.le_trans hF9.size h.size)⟩
   have HA9 : Aside0 (∀ W, Fr w9 W [] → w.heap.size ≤ W.heap.size) := ⟨fun W h => (HF.out.trans (hF9.tr h) (by simp)).size⟩
   have CL : Aside0 (∀ W, Fr w9 W [] → Calls Tryz.prog 66 #[.pointer (some ⟨pb, 0, none⟩)] W fun e w' => ∃ v, e = .returned v ∧ Buf False w' W.heap.size v (p.body 2) ∧ Fr W w' []) := ⟨fun W h0 => by
    have h : Fr wr W [] := hF9.tr h0
    exact writePool_calls pb _ _ A2 c2 p.pool _ _ _ _ _ W (h.bl HK.out) (Kd.C_below HL.out.pool (HF.out.tr h).below) HP.out.pool HP.out.ints⟩
   clear hF9 h9
   go_region_held3 (fun w' => w'.cell? ⟨wr.heap.size, 0, none⟩ = some (.int .i64 3) ∧ w'.cell? ⟨wr.heap.size, 1, none⟩ = some (.func (.func 66) #[] #[])) (first | exact ⟨y0, y1⟩ | exact ⟨z0, z1⟩ | (refine ⟨frc (L := []) z0 ?_ List.not_mem_nil, frc (L := []) z1 ?_ List.not_mem_nil⟩ <;> exact FQ) | exact ⟨k0, k1⟩ | (refine ⟨frc (L := []) k0 ?_ List.not_mem_nil, frc (L := []) k1 ?_ List.not_mem_nil⟩ <;> exact FQ) | go_keep) (first
    | (go_at_call 66; (with_reducible refine (CL.out _ ?_).mono ?_); (next => exact FQ); rintro e W3 ⟨v3, rfl, hB3, hF3⟩; obtain ⟨B3, d3, rfl, _, _⟩ := hB3.reads; have HP3 := AsM (sec_M (a := w) hB3 (HA9.out _ FQ) (HS9.out _ FQ) 3); have zb := (Fr.trans (L := []) (M := []) FQ hF3 (by simp)).bl KB.out; obtain ⟨z0, z1⟩ := cc2 zb; have ZB := AsM zb; have HF3 : Aside0 (Fr wr W3 []) := ⟨HF9.out.trans (Fr.trans (L := []) (M := []) FQ hF3 (by simp)) (by simp)⟩; clear hB3 hF3 zb)
    | (refine Kd.R_append_step k50 (w0 := w) (W := W3) w.heap.size ?hw (.tmp 19) (.tmp 26) 51 50 (.agg #[.int .i64 0, .slice none 0 0]) 32 ?ho Tryz.underlying51 infoSec rfl (by decide) (by decide) u5 (p.secs.take 2) ⟨3, p.body 2⟩ [.int .i64 3, .slice B3 (p.body 2).length d3] (fun _ => True) (fun q => some q ≠ u5.ownBlock) ?hs ?hx ?hp (fun q h => ⟨trivial, h⟩) (fun _ _ => trivial) ?HO ?HB ?hbase ?hl ?_; (case hw => rfl); (case ho => rfl); (case hs => rfl); (case hx => rfl); (case hp => exact HP3.out); (case HO => exact Kd.R_below HR.out HF3.out.below); (case HB => exact (HF.out.tr HF3.out).below); (case hbase => exact (HF.out.tr HF3.out).size); (case hl => (simp [Prg.secs])); intro v4 w4 hR4 hb4 hg4 hat4; have HR4 := AsM hR4; have HF4 : Aside0 (Fr w w4 []) := ⟨fr_grown (HF.out.tr HF3.out) hg4 (Kd.R_base HR.out)⟩; have HK4 := AsM (blk_grown (HF3.out.bl HK.out) hg4 (Kd.R_ne HR.out HK.out (by decide))); have HO4 := AsM (blk_grown (HF3.out.bl HO.out) hg4 (Kd.R_ne HR.out HO.out (by decide))); have yb := blk_grown ZB.out hg4 (Kd.R_ne (Kd.R_below HR.out HF3.out.below) ZB.out (by decide)); obtain ⟨y0, y1⟩ := cc2 yb; clear yb; clear hR4 hb4 hg4 hat4)
    | fail)
   go_wp2
   go_roundg (5 - 3)
   case measure => have := HM.out; omega
   case rel => exact ⟨3, by go_num, by omega, ⟨Nat.le_refl _⟩, HF4, HR4, HK4, HO4⟩
  ·have o0 := blk_cell HO.out 9
   have o1 := blk_cell HO.out 10
   have o2 := blk_cell HO.out 11
   simp only [ordT] at o0 o1 o2
   have hus := Tryz.underlying100
   have hsec := Tryz.underlying50
   have e1 : (store ⟨wr.heap.size, 1, none⟩ (.func (.func 68) #[] #[])).run Tryz.prog (wr.alloc (.cells #[.int .i64 4, .nilFunc, .nilFunc] 100)) = .ok () (wr.alloc (.cells #[.int .i64 4, .func (.func 68) #[] #[], .nilFunc] 100)) := store_fun _ _ _ _ 1 _ (by decide)
   have e2 : (store ⟨wr.heap.size, 2, none⟩ (.func (.func 69) #[] #[])).run Tryz.prog (wr.alloc (.cells #[.int .i64 4, .func (.func 68) #[] #[], .nilFunc] 100)) = .ok () (wr.alloc (.cells #[.int .i64 4, .func (.func 68) #[] #[], .func (.func 69) #[] #[]] 100)) := store_fun _ _ _ _ 2 _ (by decide)
   go_wp2
   have k0 : (wr.alloc (.cells #[.int .i64 4, .func (.func 68) #[] #[], .func (.func 69) #[] #[]] 100)).cell? ⟨wr.heap.size, 0, none⟩ = some (.int .i64 4) := blk_cell (blk_newN rfl) 0
   have k1 : (wr.alloc (.cells #[.int .i64 4, .func (.func 68) #[] #[], .func (.func 69) #[] #[]] 100)).cell? ⟨wr.heap.size, 1, none⟩ = some (.func (.func 68) #[] #[]) := blk_cell (blk_newN rfl) 1
   have kb : (wr.alloc (.cells #[.int .i64 4, .func (.func 68) #[] #[], .func (.func 69) #[] #[]] 100)).heap[wr.heap.size]? = some (.cells #[.int .i64 4, .func (.func 68) #[] #[], .func (.func 69) #[] #[]] 100 (0, 0)) := blk_newN rfl
   clear e1 e2 o0 o1 o2
   obtain ⟨w9, h9⟩ : ∃ w9, wr.alloc (.cells #[.int .i64 4, .func (.func 68) #[] #[], .func (.func 69) #[] #[]] 100) = w9 := ⟨_, rfl⟩
   rw [h9] at k0 k1 kb ⊢
   have KB := AsM kb
   clear kb
   have hF9 : Fr wr w9 [] := h9 ▸ (Fr.refl wr []).alloc _
   have HF9 := AsM hF9
   have HS9 : Aside0 (∀ W, Fr w9 W [] → ∀ q, u5.ownBlock = some q → q < W.heap.size) := ⟨fun W h q hq => Nat.lt_of_lt_of_le (Kd.R_lt HR.out q hq) (Nat.le_trans hF9.size h.size)⟩
   have HA9 : Aside0 (∀ W, Fr w9 W [] → w.heap.size ≤ W.heap.size) := ⟨fun W h => (HF.out.trans (hF9.tr h) (by simp)).size⟩
   have CL : Aside0 (∀ W, Fr w9 W [] → Calls Tryz.prog 68 #[.pointer (some ⟨pb, 0, none⟩)] W fun e w' => ∃ v, e = .returned v ∧ Buf False w' W.heap.size v (p.body 3) ∧ Fr W w' []) := ⟨fun W h0 => by
    have h : Fr wr W [] := hF9.tr h0
    exact writeSizes_calls pb _ _ _ _ p.hor p.cel p.slo p.sta W (h.bl HK.out) HP.out.hor HP.out.cel HP.out.slo HP.out.sta⟩
   clear hF9 h9
   go_region_held3 (fun w' => w'.cell? ⟨wr.heap.size, 0, none⟩ = some (.int .i64 4) ∧ w'.cell? ⟨wr.heap.size, 1, none⟩ = some (.func (.func 68) #[] #[])) (first | exact ⟨y0, y1⟩ | exact ⟨z0, z1⟩ | (refine ⟨frc (L := []) z0 ?_ List.not_mem_nil, frc (L := []) z1 ?_ List.not_mem_nil⟩ <;> exact FQ) | exact ⟨k0, k1⟩ | (refine ⟨frc (L := []) k0 ?_ List.not_mem_nil, frc (L := []) k1 ?_ List.not_mem_nil⟩ <;> exact FQ) | go_keep) (first
    | (go_at_call 68; (with_reducible refine (CL.out _ ?_).mono ?_); (next => exact FQ); rintro e W3 ⟨v3, rfl, hB3, hF3⟩; obtain ⟨B3, d3, rfl, _, _⟩ := hB3.reads; have HP3 := AsM (sec_M (a := w) hB3 (HA9.out _ FQ) (HS9.out _ FQ) 4); have zb := (Fr.trans (L := []) (M := []) FQ hF3 (by simp)).bl KB.out; obtain ⟨z0, z1⟩ := cc2 zb; have ZB := AsM zb; have HF3 : Aside0 (Fr wr W3 []) := ⟨HF9.out.trans (Fr.trans (L := []) (M := []) FQ hF3 (by simp)) (by simp)⟩; clear hB3 hF3 zb)
    | (refine Kd.R_append_step k50 (w0 := w) (W := W3) w.heap.size ?hw (.tmp 19) (.tmp 26) 51 50 (.agg #[.int .i64 0, .slice none 0 0]) 32 ?ho Tryz.underlying51 infoSec rfl (by decide) (by decide) u5 (p.secs.take 3) ⟨4, p.body 3⟩ [.int .i64 4, .slice B3 (p.body 3).length d3] (fun _ => True) (fun q => some q ≠ u5.ownBlock) ?hs ?hx ?hp (fun q h => ⟨trivial, h⟩) (fun _ _ => trivial) ?HO ?HB ?hbase ?hl ?_; (case hw => rfl); (case ho => rfl); (case hs => rfl); (case hx => rfl); (case hp => exact HP3.out); (case HO => exact Kd.R_below HR.out HF3.out.below); (case HB => exact (HF.out.tr HF3.out).below); (case hbase => exact (HF.out.tr HF3.out).size); (case hl => (simp [Prg.secs])); intro v4 w4 hR4 hb4 hg4 hat4; have HR4 := AsM hR4; have HF4 : Aside0 (Fr w w4 []) := ⟨fr_grown (HF.out.tr HF3.out) hg4 (Kd.R_base HR.out)⟩; have HK4 := AsM (blk_grown (HF3.out.bl HK.out) hg4 (Kd.R_ne HR.out HK.out (by decide))); have HO4 := AsM (blk_grown (HF3.out.bl HO.out) hg4 (Kd.R_ne HR.out HO.out (by decide))); have yb := blk_grown ZB.out hg4 (Kd.R_ne (Kd.R_below HR.out HF3.out.below) ZB.out (by decide)); obtain ⟨y0, y1⟩ := cc2 yb; clear yb; clear hR4 hb4 hg4 hat4)
    | fail)
   go_wp2
   go_roundg (5 - 4)
   case measure => have := HM.out; omega
   case rel => exact ⟨4, by go_num, by omega, ⟨Nat.le_refl _⟩, HF4, HR4, HK4, HO4⟩
  ·have o0 := blk_cell HO.out 12
   have o1 := blk_cell HO.out 13
   have o2 := blk_cell HO.out 14
   simp only [ordT] at o0 o1 o2
   have hus := Tryz.underlying100
   have hsec := Tryz.underlying50
   have e1 : (store ⟨wr.heap.size, 1, none⟩ (.func (.func 70) #[] #[])).run Tryz.prog (wr.alloc (.cells #[.int .i64 5, .nilFunc, .nilFunc] 100)) = .ok () (wr.alloc (.cells #[.int .i64 5, .func (.func 70) #[] #[], .nilFunc] 100)) := store_fun _ _ _ _ 1 _ (by decide)
   have e2 : (store ⟨wr.heap.size, 2, none⟩ (.func (.func 71) #[] #[])).run Tryz.prog (wr.alloc (.cells #[.int .i64 5, .func (.func 70) #[] #[], .nilFunc] 100)) = .ok () (wr.alloc (.cells #[.int .i64 5, .func (.func 70) #[] #[], .func (.func 71) #[] #[]] 100)) := store_fun _ _ _ _ 2 _ (by decide)
   go_wp2
   have k0 : (wr.alloc (.cells #[.int .i64 5, .func (.func 70) #[] #[], .func (.func 71) #[] #[]] 100)).cell? ⟨wr.heap.size, 0, none⟩ = some (.int .i64 5) := blk_cell (blk_newN rfl) 0
   have k1 : (wr.alloc (.cells #[.int .i64 5, .func (.func 70) #[] #[], .func (.func 71) #[] #[]] 100)).cell? ⟨wr.heap.size, 1, none⟩ = some (.func (.func 70) #[] #[]) := blk_cell (blk_newN rfl) 1
   have kb : (wr.alloc (.cells #[.int .i64 5, .func (.func 70) #[] #[], .func (.func 71) #[] #[]] 100)).heap[wr.heap.size]? = some (.cells #[.int .i64 5, .func (.func 70) #[] #[], .func (.func 71) #[] #[]] 100 (0, 0)) := blk_newN rfl
   clear e1 e2 o0 o1 o2
   obtain ⟨w9, h9⟩ : ∃ w9, wr.alloc (.cells #[.int .i64 5, .func (.func 70) #[] #[], .func (.func 71) #[] #[]] 100) = w9 := ⟨_, rfl⟩
   rw [h9] at k0 k1 kb ⊢
   have KB := AsM kb
   clear kb
   have hF9 : Fr wr w9 [] := h9 ▸ (Fr.refl wr []).alloc _
   have HF9 := AsM hF9
   have HS9 : Aside0 (∀ W, Fr w9 W [] → ∀ q, u5.ownBlock = some q → q < W.heap.size) := ⟨fun W h q hq => Nat.lt_of_lt_of_le (Kd.R_lt HR.out q hq) (Nat.le_trans hF9.size h.size)⟩
   have HA9 : Aside0 (∀ W, Fr w9 W [] → w.heap.size ≤ W.heap.size) := ⟨fun W h => (HF.out.trans (hF9.tr h) (by simp)).size⟩
   have CL : Aside0 (∀ W, Fr w9 W [] → Calls Tryz.prog 70 #[.pointer (some ⟨pb, 0, none⟩)] W fun e w' => ∃ v, e = .returned v ∧ Buf False w' W.heap.size v (p.body 4) ∧ Fr W w' []) := ⟨fun W h0 => by
    have h : Fr wr W [] := hF9.tr h0
    exact writeDays_calls pb _ _ _ _ _ _ _ A7 c7 p.days W (HG.out.fr0 (HF.out.tr h)) (h.bl HK.out) (Kd.C_below HL.out.days (HF.out.tr h).below) HP.out.days⟩
   clear hF9 h9
   go_region_held3 (fun w' => w'.cell? ⟨wr.heap.size, 0, none⟩ = some (.int .i64 5) ∧ w'.cell? ⟨wr.heap.size, 1, none⟩ = some (.func (.func 70) #[] #[])) (first | exact ⟨y0, y1⟩ | exact ⟨z0, z1⟩ | (refine ⟨frc (L := []) z0 ?_ List.not_mem_nil, frc (L := []) z1 ?_ List.not_mem_nil⟩ <;> exact FQ) | exact ⟨k0, k1⟩ | (refine ⟨frc (L := []) k0 ?_ List.not_mem_nil, frc (L := []) k1 ?_ List.not_mem_nil⟩ <;> exact FQ) | go_keep) (first
    | (go_at_call 70; (with_reducible refine (CL.out _ ?_).mono ?_); (next => exact FQ); rintro e W3 ⟨v3, rfl, hB3, hF3⟩; obtain ⟨B3, d3, rfl, _, _⟩ := hB3.reads; have HP3 := AsM (sec_M (a := w) hB3 (HA9.out _ FQ) (HS9.out _ FQ) 5); have zb := (Fr.trans (L := []) (M := []) FQ hF3 (by simp)).bl KB.out; obtain ⟨z0, z1⟩ := cc2 zb; have ZB := AsM zb; have HF3 : Aside0 (Fr wr W3 []) := ⟨HF9.out.trans (Fr.trans (L := []) (M := []) FQ hF3 (by simp)) (by simp)⟩; clear hB3 hF3 zb)
    | (refine Kd.R_append_step k50 (w0 := w) (W := W3) w.heap.size ?hw (.tmp 19) (.tmp 26) 51 50 (.agg #[.int .i64 0, .slice none 0 0]) 32 ?ho Tryz.underlying51 infoSec rfl (by decide) (by decide) u5 (p.secs.take 4) ⟨5, p.body 4⟩ [.int .i64 5, .slice B3 (p.body 4).length d3] (fun _ => True) (fun q => some q ≠ u5.ownBlock) ?hs ?hx ?hp (fun q h => ⟨trivial, h⟩) (fun _ _ => trivial) ?HO ?HB ?hbase ?hl ?_; (case hw => rfl); (case ho => rfl); (case hs => rfl); (case hx => rfl); (case hp => exact HP3.out); (case HO => exact Kd.R_below HR.out HF3.out.below); (case HB => exact (HF.out.tr HF3.out).below); (case hbase => exact (HF.out.tr HF3.out).size); (case hl => (simp [Prg.secs])); intro v4 w4 hR4 hb4 hg4 hat4; have HR4 := AsM hR4; have HF4 : Aside0 (Fr w w4 []) := ⟨fr_grown (HF.out.tr HF3.out) hg4 (Kd.R_base HR.out)⟩; have HK4 := AsM (blk_grown (HF3.out.bl HK.out) hg4 (Kd.R_ne HR.out HK.out (by decide))); have HO4 := AsM (blk_grown (HF3.out.bl HO.out) hg4 (Kd.R_ne HR.out HO.out (by decide))); have yb := blk_grown ZB.out hg4 (Kd.R_ne (Kd.R_below HR.out HF3.out.below) ZB.out (by decide)); obtain ⟨y0, y1⟩ := cc2 yb; clear yb; clear hR4 hb4 hg4 hat4)
    | fail)
   go_wp2
   go_roundg (5 - 5)
   case measure => have := HM.out; omega
   case rel => exact ⟨5, by go_num, by omega, ⟨Nat.le_refl _⟩, HF4, HR4, HK4, HO4⟩
  ·have hr5 : Kd.R k50 50 wr w.heap.size (fun _ => True) u5 p.secs := HR.out
   obtain ⟨A5, c5, rfl, hl5, hC5⟩ := Kd.R_reads hr5
   have HC5 := AsM hC5
   have HSO := AsM (Prg.secsOk HP.out)
   clear hr5 hC5 HR
   go_wp2_with (first
    | (go_at_call 13; ((with_reducible refine (oSeal_calls A5 c5 p.secs _ (by decide) _ HC5.out HSO.out).mono ?_); rintro e W5 ⟨v5, rfl, hB5, hF5⟩; have HB5 := AsM (hB5.lower HF.out.size); have HF5 : Aside0 (Fr w W5 []) := ⟨HF.out.tr hF5⟩; clear hB5 hF5)))
   go_ret2
   exact ⟨_, rfl, HB5.out, HF5.out⟩
end Go.Proofs.YtpoehkacfmljcaaGreatDoor.H
