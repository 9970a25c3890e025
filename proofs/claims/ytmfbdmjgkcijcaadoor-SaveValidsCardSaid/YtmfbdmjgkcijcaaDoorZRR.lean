/- The reference's Fit, Resume and Valid: printed by mkRR.py. -/
import Derived.Test.YtmfbdmjgkcijcaaDoorZV
import Derived.Test.YtmfbdmjgkcijcaaDoorZRQ
import Derived.Test.YtmfbdmjgkcijcaaDoorZPA
import Derived.Test.YtmfbdmjgkcijcaaDoorZMPayoffref15Fit
namespace Go.Proofs.YtmfbdmjgkcijcaaDoor.H
open Go.RowKit Go.Proofs.YtmfbdmjgkcijcaaDoorW.PrintWords Go.Proofs.YtmfbdmjgkcijcaaDoorW.PrintLast Go.Proofs.YtmfbdmjgkcijcaaDoorW.PrintMore
open Go.ChangeMaps (setBlock)
attribute [local go_sem] max2_int min2_int max_two min_two max_three min_three max_four min_four
set_option linter.unusedVariables false
set_option linter.unusedSimpArgs false
open Go.Proofs.YtmfbdmjgkcijcaaDoor.M
theorem fit_l0 (l0 : List S69) (n : Nat) (hn : n ≤ 1000000) : ∀ (m i : Nat) (x5 : List S69), i + m = n → x5.length = n → ∃ r, payoffref15_Fit.l0 (2 * m + 2) l0 n x5 i = some r
  | 0, i, x5, hi, _ => by
    refine ⟨x5, ?_⟩
    simp only [payoffref15_Fit.l0]
    rw [if_neg (by omega)]
    rfl
  | m + 1, i, x5, hi, hx => by
    show ∃ r, payoffref15_Fit.l0 ((2 * m + 2) + 2) l0 n x5 i = some r
    simp only [payoffref15_Fit.l0, payoffref15_Fit.j1]
    rw [if_pos (show (i : Int) < n by omega)]
    by_cases hl : (i : Int) < (l0.length : Int)
    · have hw : wrap64 ((i : Int) + 1) = ((i + 1 : Nat) : Int) := by unfold wrap64; omega
      rw [if_pos (decide_eq_true hl), if_pos (show (0 : Int) ≤ i by omega), if_pos hl, hw]
      split
      · rw [if_pos (show (i : Int) < x5.length by omega)]
        exact fit_l0 l0 n hn m (i + 1) _ (by omega) (by rw [List.length_set]; exact hx)
      · exact fit_l0 l0 n hn m (i + 1) _ (by omega) hx
    · rw [if_neg (by simpa using hl)]
      exact ⟨x5, rfl⟩
theorem fit_calls (A0 : Option Addr) (c0 : Nat) (l0 : List S69) (n : Nat) (hn : n ≤ 1000000) (w : World) (hr0 : Kd.C k69 w A0 l0.length l0) (hc0 : l0.length ≤ c0) : Calls Tryd.prog 15 #[.slice A0 l0.length c0, .int .i64 n] w fun e w' => ∃ A m c, e = .returned (.slice A m c) ∧ Fr w w' [] := by
  obtain ⟨r, hr⟩ := fit_l0 l0 n hn n 0 (List.replicate n z69) (by omega) (by simp)
  have hf : payoffref15_Fit.f (2 * n + 2) l0 (n : Int) = some r := by
    unfold payoffref15_Fit.f
    rw [if_pos (by omega), if_pos (by omega)]
    exact hr
  refine (payoffref15_Fit.calls (2 * n + 2) A0 c0 l0 n r w hr0 hc0 hf).mono ?_
  rintro e w' ⟨v, rfl, hv, hb⟩
  obtain ⟨A, c, rfl⟩ := Kd.R_slice hv
  exact ⟨A, _, c, rfl, Fr.of_below hb _⟩
set_option maxHeartbeats 4000000 in
set_option maxRecDepth 100000 in
theorem rResume_calls (A0 : Option Addr) (c0 : Nat) (names : List ByteArray) (A1 : Option Addr) (c1 : Nat) (curs : List ByteArray) (A2 : Option Addr) (c2 : Nat) (pool : List Int) (hor cel slo sta : Int) (A7 : Option Addr) (c7 : Nat) (days : List S41) (a0 a1 : Int) (B2 : Option Addr) (d2 : Nat) (l2 : List Int) (B3 : Option Addr) (d3 : Nat) (l3 : List (List S69)) (a4 a5 : Int) (w : World) (hr0 : Kd.C Kd.string w A0 names.length names) (hc0 : names.length ≤ c0) (hr1 : Kd.C Kd.string w A1 curs.length curs) (hc1 : curs.length ≤ c1) (hr2 : Kd.C (Kd.int .i64) w A2 pool.length pool) (hr7 : Kd.C k41 w A7 days.length days) (hc7 : days.length ≤ c7)
    (hs2 : Kd.C (Kd.int .i64) w B2 l2.length l2) (hd2 : l2.length ≤ d2) (hs3 : Kd.C (Kd.slice 69 k69) w B3 l3.length l3) (hd3 : l3.length ≤ d3) (hdl : ∀ s ∈ days, s.f1.length ≤ 10000000000000) (hsz : ∀ s ∈ names, s.size ≤ 9223372036854775806) (G : TabW w) :
    Calls Tryd.prog 9 #[.agg #[.slice A0 names.length c0, .slice A1 curs.length c1, .slice A2 pool.length c2, .int .i64 hor, .int .i64 cel, .int .i64 slo, .int .i64 sta, .slice A7 days.length c7], .agg #[.int .i64 a0, .int .i64 a1, .slice B2 l2.length d2, .slice B3 l3.length d3, .int .i64 a4, .int .i64 a5]] w (ResPost (validP names curs pool hor cel slo sta days a0 a1 l2 l3 a4 a5) w) := by
  obtain ⟨R, hR⟩ : ∃ x, verifyR names curs pool hor cel slo sta days = x := ⟨_, rfl⟩
  have hv0 := fun h => ver0R (names := names) (curs := curs) (pool := pool) (hor := hor) (cel := cel) (slo := slo) (sta := sta) (days := days) h
  have hrel := verify_rel names curs pool hor cel slo sta days
  have CM : Aside0 (∀ W, Fr w W [] → Calls Tryd.prog 13 #[.agg #[.slice A0 names.length c0, .slice A1 curs.length c1, .slice A2 pool.length c2, .int .i64 hor, .int .i64 cel, .int .i64 slo, .int .i64 sta, .slice A7 days.length c7]] W (NewPost R A0 names.length c0 (.slice A1 curs.length c1) (.slice A2 pool.length c2) hor cel slo sta A7 days.length c7 W)) := ⟨fun W h => hR ▸ new_calls A0 c0 names A1 c1 curs A2 c2 pool hor cel slo sta A7 c7 days W (Kd.C_below hr0 h.below) hc0 (Kd.C_below hr1 h.below) hc1 (Kd.C_below hr2 h.below) (Kd.C_below hr7 h.below) hc7 hdl hsz (G.fr0 h)⟩
  obtain ⟨V, hV⟩ : ∃ x, validP names curs pool hor cel slo sta days a0 a1 l2 l3 a4 a5 = x := ⟨_, rfl⟩
  rw [hV]
  unfold validP at hV
  rw [hR] at hv0 hrel
  obtain ⟨err, acc⟩ := R
  simp only at hv0 hrel
  rw [hrel.1] at hV
  have HS2 := Aside0.mk hs2
  have HS3 := Aside0.mk hs3
  have HR7 := Aside0.mk hr7
  clear hr0 hr1 hr2 hr7 G hdl hsz hR hs2 hs3
  have hup := Tryd.underlying26
  have huq := Tryd.underlying49
  have hus := Tryd.underlying30
  have hum := Tryd.underlying56
  by_cases hz : err = 0
  case neg =>
    rw [if_pos hz] at hV
    subst hV
    have hz2 : (err != 0) = true := by simpa using hz
    clear hz hv0 hrel
    have CM2 : Aside0 (∀ W, Fr w W [] → Calls Tryd.prog 13 #[.agg #[.slice A0 names.length c0, .slice A1 curs.length c1, .slice A2 pool.length c2, .int .i64 hor, .int .i64 cel, .int .i64 slo, .int .i64 sta, .slice A7 days.length c7]] W fun e W' => ∃ pv, e = .returned (.tuple #[pv, .int .i64 err]) ∧ Fr W W' []) := ⟨fun W h => (CM.out W h).mono fun e W' ⟨hf, pv, he, _⟩ => ⟨pv, he, hf⟩⟩
    clear CM
    go_enter Tryd.func9, Tryd.ntmps9
    go_wp2_with (first | (go_at_call 13; (with_reducible refine (CM2.out _ ?_).mono ?_); (next => exact FQ); rintro e W1 ⟨pv, rfl, hF1⟩; have HF1 : Aside0 (Fr w W1 []) := ⟨Fr.trans (M := []) FQ hF1 (by simp)⟩; clear hF1))
    go_ret2
    exact ⟨by (with_reducible (repeat (first | exact Fr.refl _ _ | refine Fr.drew ?_ | refine Fr.drewN ?_ _ | refine Fr.alloc ?_ _ | refine Fr.setCell ?_ _ _ ?_))); exact HF1.out, _, rfl⟩
  case pos =>
    subst hz
    rw [if_neg (fun h => h rfl), hrel.2 rfl] at hV
    obtain ⟨hli, hdn, hdo⟩ := hv0 rfl
    have hlf := lists_facts hli
    obtain ⟨mb, hmb⟩ : ∃ x, mayB names.length hor cel acc.back days a0 a1 l2 l3 a4 a5 = x := ⟨_, rfl⟩
    rw [hmb] at hV
    have HDO := Aside0.mk hdo
    have HLF := Aside0.mk hlf
    have HSM : Aside0 (mb = true → l2.length ≤ 1000000 ∧ l3.length ≤ 1000000 ∧ ∀ s ∈ l3, s.length = names.length) := ⟨fun h => by
      obtain ⟨h1, h2, h3⟩ := may_small (hmb.trans h)
      exact ⟨by omega, by omega, h3⟩⟩
    have CMY : Aside0 (∀ W, Fr w W [] → Calls Tryd.prog 14 #[.agg #[.slice A0 names.length c0, .slice A1 curs.length c1, .slice A2 pool.length c2, .int .i64 hor, .int .i64 cel, .int .i64 slo, .int .i64 sta, .slice A7 days.length c7], .agg #[.int .i64 acc.stack, .int .i64 acc.fuel, .int .i64 acc.back], .agg #[.int .i64 a0, .int .i64 a1, .slice B2 l2.length d2, .slice B3 l3.length d3, .int .i64 a4, .int .i64 a5]] W (MayPost mb W)) := ⟨fun W h => hmb ▸ is_calls A0 names.length c0 A1 curs.length c1 A2 pool.length c2 hor cel slo sta A7 c7 days acc.stack acc.fuel acc.back a0 a1 B2 d2 l2 B3 d3 l3 a4 a5 W ⟨by omega, by omega⟩ hdn (fun s hs => (HDO.out s hs).2.1) (Kd.C_below HR7.out h.below) (Kd.C_below HS2.out h.below) (Kd.C_below HS3.out h.below)⟩
    have CM2 : Aside0 (∀ W, Fr w W [] → Calls Tryd.prog 13 #[.agg #[.slice A0 names.length c0, .slice A1 curs.length c1, .slice A2 pool.length c2, .int .i64 hor, .int .i64 cel, .int .i64 slo, .int .i64 sta, .slice A7 days.length c7]] W fun e W' => ∃ g q m c, e = .returned (.tuple #[.pointer (some ⟨g, 0, none⟩), .int .i64 0]) ∧ Fr W W' [] ∧ W.heap.size ≤ g ∧ W'.heap[g]? = some (.cells (refCells A0 names.length c0 (.slice A1 curs.length c1) (.slice A2 pool.length c2) hor cel slo sta A7 days.length c7 acc.stack acc.fuel acc.back (.slice (some ⟨q, 0, none⟩) m c)) 56 (0, 0))) := ⟨fun W h => (CM.out W h).mono fun e W' ⟨hf, pv, he, hm⟩ => by
      obtain ⟨g, q, m, c, h1, h2, h3⟩ := hm rfl
      exact ⟨g, q, m, c, by rw [he, h1], hf, h2, h3⟩⟩
    clear CM hmb hli hdo hv0 hrel
    go_enter Tryd.func9, Tryd.ntmps9
    go_upto_region 4 with (first | (go_at_call 13; (with_reducible refine (CM2.out _ ?_).mono ?_); (next => exact FQ); rintro e W1 ⟨g, q, m, c, rfl, hF1, hg1, hM1⟩; have HX1 := Aside0.mk (hF1.blk (g := w.heap.size) (blk_alloc (blk_newN rfl) _) (by simp)); have HS1 := Aside0.mk (hF1.blk (g := w.heap.size + 1) (blk_newN (by simp)) (by simp)); have HF1 : Aside0 (Fr w W1 []) := ⟨Fr.trans (M := []) FQ hF1 (by simp)⟩; have HM1 := Aside0.mk hM1; clear hF1 hM1))
    have hgw : w.heap.size + 1 + 1 ≤ g := by simpa using hg1
    have HNE := Aside0.mk (show w.heap.size ≠ g ∧ w.heap.size + 1 ≠ g from ⟨by omega, by omega⟩)
    clear hg1 CM2
    have x0 := blk_cell HX1.out 0
    have x1 := blk_cell HX1.out 1
    have x2 := blk_cell HX1.out 2
    have x3 := blk_cell HX1.out 3
    have x4 := blk_cell HX1.out 4
    have x5 := blk_cell HX1.out 5
    have x6 := blk_cell HX1.out 6
    have x7 := blk_cell HX1.out 7
    have s0 := blk_cell HS1.out 0
    have s1 := blk_cell HS1.out 1
    have s2 := blk_cell HS1.out 2
    have s3 := blk_cell HS1.out 3
    have s4 := blk_cell HS1.out 4
    have s5 := blk_cell HS1.out 5
    have g8 : W1.cell? ⟨g, 8, none⟩ = some (.int .i64 acc.stack) := blk_cell HM1.out 8
    have g9 : W1.cell? ⟨g, 9, none⟩ = some (.int .i64 acc.fuel) := blk_cell HM1.out 9
    have g10 : W1.cell? ⟨g, 10, none⟩ = some (.int .i64 acc.back) := blk_cell HM1.out 10
    go_region_held3 (fun w' => w'.cell? ⟨w.heap.size, 0, none⟩ = some (.slice A0 names.length c0) ∧ w'.cell? ⟨w.heap.size, 1, none⟩ = some (.slice A1 curs.length c1) ∧ w'.cell? ⟨w.heap.size, 2, none⟩ = some (.slice A2 pool.length c2) ∧ w'.cell? ⟨w.heap.size, 3, none⟩ = some (.int .i64 hor) ∧ w'.cell? ⟨w.heap.size, 4, none⟩ = some (.int .i64 cel) ∧ w'.cell? ⟨w.heap.size, 5, none⟩ = some (.int .i64 slo) ∧ w'.cell? ⟨w.heap.size, 6, none⟩ = some (.int .i64 sta) ∧ w'.cell? ⟨w.heap.size, 7, none⟩ = some (.slice A7 days.length c7) ∧ w'.cell? ⟨w.heap.size + 1, 0, none⟩ = some (.int .i64 a0) ∧ w'.cell? ⟨w.heap.size + 1, 1, none⟩ = some (.int .i64 a1) ∧ w'.cell? ⟨w.heap.size + 1, 2, none⟩ = some (.slice B2 l2.length d2) ∧ w'.cell? ⟨w.heap.size + 1, 3, none⟩ = some (.slice B3 l3.length d3) ∧ w'.cell? ⟨w.heap.size + 1, 4, none⟩ = some (.int .i64 a4) ∧ w'.cell? ⟨w.heap.size + 1, 5, none⟩ = some (.int .i64 a5) ∧ w'.cell? ⟨g, 8, none⟩ = some (.int .i64 acc.stack) ∧ w'.cell? ⟨g, 9, none⟩ = some (.int .i64 acc.fuel) ∧ w'.cell? ⟨g, 10, none⟩ = some (.int .i64 acc.back)) (first | exact ⟨x0, x1, x2, x3, x4, x5, x6, x7, s0, s1, s2, s3, s4, s5, g8, g9, g10⟩ | go_keep) (first | (go_simp; go_at_call 14; (with_reducible refine (CMY.out _ ?_).mono ?_); (next => exact by (with_reducible (repeat (first | exact Fr.refl _ _ | refine Fr.drew ?_ | refine Fr.drewN ?_ _ | refine Fr.alloc ?_ _ | refine Fr.setCell ?_ _ _ ?_))); exact HF1.out); rintro e W2 ⟨rfl, hF2⟩; have HX2 := Aside0.mk (hF2.blk (g := w.heap.size) (by (with_reducible (repeat (first | apply blk_drew | apply blk_alloc | apply blk_set))); first | exact HX1.out | exact blk_drewN HX1.out _) (by simp)); have HS2' := Aside0.mk (hF2.blk (g := w.heap.size + 1) (by (with_reducible (repeat (first | apply blk_drew | apply blk_alloc | apply blk_set))); first | exact HS1.out | exact blk_drewN HS1.out _) (by simp)); have HM2 := Aside0.mk (hF2.blk (g := g) (by (with_reducible (repeat (first | apply blk_drew | apply blk_alloc | apply blk_set))); first | exact HM1.out | exact blk_drewN HM1.out _) (by simp)); have HF2 : Aside0 (Fr w W2 []) := ⟨Fr.trans (M := []) (by (with_reducible (repeat (first | exact Fr.refl _ _ | refine Fr.drew ?_ | refine Fr.drewN ?_ _ | refine Fr.alloc ?_ _ | refine Fr.setCell ?_ _ _ ?_))); exact HF1.out) hF2 (by simp)⟩; have xx0 := blk_cell HX2.out 0; have xx1 := blk_cell HX2.out 1; have xx2 := blk_cell HX2.out 2; have xx3 := blk_cell HX2.out 3; have xx4 := blk_cell HX2.out 4; have xx5 := blk_cell HX2.out 5; have xx6 := blk_cell HX2.out 6; have xx7 := blk_cell HX2.out 7; have ss0 := blk_cell HS2'.out 0; have ss1 := blk_cell HS2'.out 1; have ss2 := blk_cell HS2'.out 2; have ss3 := blk_cell HS2'.out 3; have ss4 := blk_cell HS2'.out 4; have ss5 := blk_cell HS2'.out 5; have gg8 : W2.cell? ⟨g, 8, none⟩ = some (.int .i64 acc.stack) := blk_cell HM2.out 8; have gg9 : W2.cell? ⟨g, 9, none⟩ = some (.int .i64 acc.fuel) := blk_cell HM2.out 9; have gg10 : W2.cell? ⟨g, 10, none⟩ = some (.int .i64 acc.back) := blk_cell HM2.out 10; clear hF2))
    go_upto_region 5 with fail
    refine name_ (fun V => Aside0 (Fr w V []) ∧ Aside0 (V.heap[w.heap.size]? = some (.cells #[.slice A0 names.length c0, .slice A1 curs.length c1, .slice A2 pool.length c2, .int .i64 hor, .int .i64 cel, .int .i64 slo, .int .i64 sta, .slice A7 days.length c7] 26 (0, 0))) ∧ Aside0 (V.heap[w.heap.size + 1]? = some (.cells #[.int .i64 a0, .int .i64 a1, .slice B2 l2.length d2, .slice B3 l3.length d3, .int .i64 a4, .int .i64 a5] 30 (0, 0))) ∧ Aside0 (V.heap[g]? = some (.cells (refCells A0 names.length c0 (.slice A1 curs.length c1) (.slice A2 pool.length c2) hor cel slo sta A7 days.length c7 acc.stack acc.fuel acc.back (.slice (some ⟨q, 0, none⟩) m c)) 56 (0, 0)))) ⟨⟨by (with_reducible (repeat (first | exact Fr.refl _ _ | refine Fr.drew ?_ | refine Fr.drewN ?_ _ | refine Fr.alloc ?_ _ | refine Fr.setCell ?_ _ _ ?_))); exact HF2.out⟩, ⟨by (with_reducible (repeat (first | apply blk_drew | apply blk_alloc | apply blk_set))); first | exact HX2.out | exact blk_drewN HX2.out _⟩, ⟨by (with_reducible (repeat (first | apply blk_drew | apply blk_alloc | apply blk_set))); first | exact HS2'.out | exact blk_drewN HS2'.out _⟩, ⟨by (with_reducible (repeat (first | apply blk_drew | apply blk_alloc | apply blk_set))); first | exact HM2.out | exact blk_drewN HM2.out _⟩⟩ ?_
    clear x0 x1 x2 x3 x4 x5 x6 x7 s0 s1 s2 s3 s4 s5 g8 g9 g10 xx0 xx1 xx2 xx3 xx4 xx5 xx6 xx7 ss0 ss1 ss2 ss3 ss4 ss5 gg8 gg9 gg10 HX1 HS1 HM1 HX2 HS2' HM2 HF1 HF2 CMY
    rintro W3 ⟨HF3, HX3, HS3', HM3⟩
    cases mb
    case false =>
      obtain rfl : 5 = V := by simpa using hV
      go_wp2
      go_ret2
      exact ⟨by (with_reducible (repeat (first | exact Fr.refl _ _ | refine Fr.drew ?_ | refine Fr.drewN ?_ _ | refine Fr.alloc ?_ _ | refine Fr.setCell ?_ _ _ ?_))); exact HF3.out, _, rfl⟩
    case true =>
      obtain rfl : 0 = V := by simpa using hV
      obtain ⟨k2, k3, k4⟩ := HSM.out rfl
      have K4 := Aside0.mk k4
      clear k4 HSM
      have hgl := blk_lt HM3.out
      have hsl := blk_lt HS3'.out
      have s0 := blk_cell HS3'.out 0
      have s1 := blk_cell HS3'.out 1
      have s2 := blk_cell HS3'.out 2
      have s3 := blk_cell HS3'.out 3
      have s4 := blk_cell HS3'.out 4
      have s5 := blk_cell HS3'.out 5
      have g11 : W3.cell? ⟨g, 11, none⟩ = some (.int .i64 0) := blk_cell HM3.out 11
      have g12 : W3.cell? ⟨g, 12, none⟩ = some (.int .i64 0) := blk_cell HM3.out 12
      have g13 : W3.cell? ⟨g, 13, none⟩ = some (.slice (some ⟨q, 0, none⟩) m c) := blk_cell HM3.out 13
      have g14 : W3.cell? ⟨g, 14, none⟩ = some (.slice none 0 0) := blk_cell HM3.out 14
      have g15 : W3.cell? ⟨g, 15, none⟩ = some (.int .i64 0) := blk_cell HM3.out 15
      have g16 : W3.cell? ⟨g, 16, none⟩ = some (.int .i64 0) := blk_cell HM3.out 16
      have f11 := blk_frozen HM3.out 11
      have f12 := blk_frozen HM3.out 12
      have f13 := blk_frozen HM3.out 13
      have f14 := blk_frozen HM3.out 14
      have f15 := blk_frozen HM3.out 15
      have f16 := blk_frozen HM3.out 16
      go_upto_region 8 with fail
      refine name_ (fun V => Aside0 (Fr w V []) ∧ Aside0 (V.heap[w.heap.size]? = some (.cells #[.slice A0 names.length c0, .slice A1 curs.length c1, .slice A2 pool.length c2, .int .i64 hor, .int .i64 cel, .int .i64 slo, .int .i64 sta, .slice A7 days.length c7] 26 (0, 0))) ∧ Aside0 (V.heap[w.heap.size + 1]? = some (.cells #[.int .i64 a0, .int .i64 a1, .slice B2 l2.length d2, .slice B3 l3.length d3, .int .i64 a4, .int .i64 a5] 30 (0, 0))) ∧ Aside0 (V.heap[g]? = some (.cells #[.slice A0 names.length c0, .slice A1 curs.length c1, .slice A2 pool.length c2, .int .i64 hor, .int .i64 cel, .int .i64 slo, .int .i64 sta, .slice A7 days.length c7, .int .i64 acc.stack, .int .i64 acc.fuel, .int .i64 acc.back, .int .i64 a0, .int .i64 a1, .slice B2 l2.length d2, .slice B3 l3.length d3, .int .i64 a4, .int .i64 a5, .slice none 0 0] 56 (0, 0)))) ⟨⟨by (with_reducible (repeat (first | exact Fr.refl _ _ | refine Fr.drew ?_ | refine Fr.drewN ?_ _ | refine Fr.alloc ?_ _ | refine Fr.setCell ?_ _ _ ?_))) <;> first | exact HF3.out | exact .inr (by show w.heap.size ≤ g; omega)⟩, ⟨at_far (at_far (at_far (at_far (at_far (at_far HX3.out HNE.out.1 _) HNE.out.1 _) HNE.out.1 _) HNE.out.1 _) HNE.out.1 _) HNE.out.1 _⟩, ⟨at_far (at_far (at_far (at_far (at_far (at_far HS3'.out HNE.out.2 _) HNE.out.2 _) HNE.out.2 _) HNE.out.2 _) HNE.out.2 _) HNE.out.2 _⟩, ⟨blk_to (blk_set (blk_set (blk_set (blk_set (blk_set (blk_set HM3.out 11 _) 12 _) 13 _) 14 _) 15 _) 16 _) rfl⟩⟩ ?_
      clear s0 s1 s2 s3 s4 s5 g11 g12 g13 g14 g15 g16 f11 f12 f13 f14 f15 f16 HX3 HS3' HM3 HF3 hgl hsl
      rintro W4 ⟨HF4, HX4, HS4', HM4⟩
      have hsl := blk_lt HS4'.out
      have hgl := blk_lt HM4.out
      have s2 := blk_cell HS4'.out 2
      have HCL : Aside0 (Kd.C (Kd.int .i64) W4 B2 l2.length l2) := ⟨Kd.C_below HS2.out HF4.out.below⟩
      go_upto_region 9 with (first | (at_builtin; (refine Kd.R_append_rows (Kd.int .i64) (w0 := W4) W4.heap.size rfl (.tmp 32) (.tmp 34) 23 3 (.int .i64 0) 8 rfl Tryd.underlying23 info3 rfl (by decide) (by decide) _ [] l2 B2 l2.length d2 (fun _ => True) (fun _ => False) rfl rfl (empty_R _ _ W4) (Kd.C_alloc HCL.out _) (fun _ _ h => h) (fun _ h => h.elim) (fun _ _ => trivial) (below_alloc (Below.refl _ _) _) (by simp) (by simp; omega) ?_); intro v1 w1 ho hb hg hat; obtain ⟨E2, y2, rfl⟩ := Kd.R_slice ho; have HF5 : Aside0 (Fr W4 w1 []) := ⟨Fr.grown (L := []) (Fr.alloc (Fr.refl W4 []) _) hg (fun k hk => .inr (by injection hk with hk; simp at hk; omega))⟩; have HM5 := Aside0.mk (HF5.out.blk HM4.out (by simp)); have g13 := blk_cell HM5.out 13; have f13 := blk_frozen HM5.out 13; have hgl5 := blk_lt HM5.out; clear ho hb hg hat))
      refine name_ (fun V => Aside0 (Fr w V []) ∧ Aside0 (V.heap[w.heap.size]? = some (.cells #[.slice A0 names.length c0, .slice A1 curs.length c1, .slice A2 pool.length c2, .int .i64 hor, .int .i64 cel, .int .i64 slo, .int .i64 sta, .slice A7 days.length c7] 26 (0, 0))) ∧ Aside0 (V.heap[w.heap.size + 1]? = some (.cells #[.int .i64 a0, .int .i64 a1, .slice B2 l2.length d2, .slice B3 l3.length d3, .int .i64 a4, .int .i64 a5] 30 (0, 0))) ∧ Aside0 (V.heap[g]? = some (.cells #[.slice A0 names.length c0, .slice A1 curs.length c1, .slice A2 pool.length c2, .int .i64 hor, .int .i64 cel, .int .i64 slo, .int .i64 sta, .slice A7 days.length c7, .int .i64 acc.stack, .int .i64 acc.fuel, .int .i64 acc.back, .int .i64 a0, .int .i64 a1, .slice E2 l2.length y2, .slice B3 l3.length d3, .int .i64 a4, .int .i64 a5, .slice none 0 0] 56 (0, 0)))) ⟨⟨by (with_reducible (repeat (first | exact Fr.refl _ _ | refine Fr.drew ?_ | refine Fr.drewN ?_ _ | refine Fr.alloc ?_ _ | refine Fr.setCell ?_ _ _ ?_))) <;> first | exact HF4.out.trans HF5.out (by simp) | exact .inr (by show w.heap.size ≤ g; omega)⟩, ⟨at_far (HF5.out.blk HX4.out (by simp)) HNE.out.1 _⟩, ⟨at_far (HF5.out.blk HS4'.out (by simp)) HNE.out.2 _⟩, ⟨blk_to (blk_set HM5.out 13 _) rfl⟩⟩ ?_
      clear s2 g13 f13 hgl5 HF4 HX4 HS4' HM4 HF5 HM5 hsl hgl HCL
      rintro W5 ⟨HF5, HX5, HS5, HM5⟩
      have hgl := blk_lt HM5.out
      have g14 := blk_cell HM5.out 14
      have f14 := blk_frozen HM5.out 14
      go_upto_region 10 with fail
      refine name_ (fun V => Aside0 (Fr w V []) ∧ Aside0 (V.heap[w.heap.size]? = some (.cells #[.slice A0 names.length c0, .slice A1 curs.length c1, .slice A2 pool.length c2, .int .i64 hor, .int .i64 cel, .int .i64 slo, .int .i64 sta, .slice A7 days.length c7] 26 (0, 0))) ∧ Aside0 (V.heap[w.heap.size + 1]? = some (.cells #[.int .i64 a0, .int .i64 a1, .slice B2 l2.length d2, .slice B3 l3.length d3, .int .i64 a4, .int .i64 a5] 30 (0, 0))) ∧ Aside0 (V.heap[g]? = some (.cells #[.slice A0 names.length c0, .slice A1 curs.length c1, .slice A2 pool.length c2, .int .i64 hor, .int .i64 cel, .int .i64 slo, .int .i64 sta, .slice A7 days.length c7, .int .i64 acc.stack, .int .i64 acc.fuel, .int .i64 acc.back, .int .i64 a0, .int .i64 a1, .slice E2 l2.length y2, .slice none 0 0, .int .i64 a4, .int .i64 a5, .slice none 0 0] 56 (0, 0)))) ⟨⟨by (with_reducible (repeat (first | exact Fr.refl _ _ | refine Fr.drew ?_ | refine Fr.drewN ?_ _ | refine Fr.alloc ?_ _ | refine Fr.setCell ?_ _ _ ?_))) <;> first | exact HF5.out | exact .inr (by show w.heap.size ≤ g; omega)⟩, ⟨at_far HX5.out HNE.out.1 _⟩, ⟨at_far HS5.out HNE.out.2 _⟩, ⟨blk_to (blk_set HM5.out 14 _) rfl⟩⟩ ?_
      clear g14 f14 HF5 HX5 HS5 HM5 hgl
      rintro W6 ⟨HF6, HX6, HS6, HM6⟩
      go_wp2
      go_loopg [9] l3.length (fun kq s9 wr => ∃ (k : Nat) (Av : Option Addr) (nv cv nn : Nat) (vals : List Value), s9 = .int .i64 k ∧ k ≤ l3.length ∧ Aside0 (l3.length - k ≤ kq) ∧ Aside0 (Fr w wr []) ∧ Aside0 (wr.heap[w.heap.size]? = some (.cells #[.slice A0 names.length c0, .slice A1 curs.length c1, .slice A2 pool.length c2, .int .i64 hor, .int .i64 cel, .int .i64 slo, .int .i64 sta, .slice A7 days.length c7] 26 (0, 0))) ∧ Aside0 (wr.heap[w.heap.size + 1]? = some (.cells #[.int .i64 a0, .int .i64 a1, .slice B2 l2.length d2, .slice B3 l3.length d3, .int .i64 a4, .int .i64 a5] 30 (0, 0))) ∧ Aside0 (wr.heap[g]? = some (.cells #[.slice A0 names.length c0, .slice A1 curs.length c1, .slice A2 pool.length c2, .int .i64 hor, .int .i64 cel, .int .i64 slo, .int .i64 sta, .slice A7 days.length c7, .int .i64 acc.stack, .int .i64 acc.fuel, .int .i64 acc.back, .int .i64 a0, .int .i64 a1, .slice E2 l2.length y2, .slice none 0 0, .int .i64 a4, .int .i64 a5, .slice Av nv cv] 56 (0, 0))) ∧ Aside0 (wr.ownsRow 0 42 1 (.slice Av nv cv) nn vals) ∧ Aside0 (nn ≤ k) ∧ Aside0 (∀ i, (Value.slice Av nv cv).ownBlock = some i → g < i))
      case atStart => exact ⟨0, none, 0, 0, 0, [], rfl, Nat.zero_le _, ⟨Nat.le_refl _⟩, HF6, HX6, HS6, HM6, ⟨own_nil _ _ _ _⟩, ⟨Nat.le_refl _⟩, ⟨fun i h => by simp [Value.ownBlock] at h⟩⟩
      case round =>
        clear HF6 HX6 HS6 HM6
        obtain ⟨k, Av, nv, cv, nn, vals, rfl, hk, HM, HF, HX, HS, HG, HO, HNV, HOB⟩ := hrel
        have hxl := blk_lt HX.out
        have hsl := blk_lt HS.out
        have hgl := blk_lt HG.out
        by_cases hkl : k < l3.length
        · have n3 : decide (k < l3.length) = true := by simpa using hkl
          obtain ⟨ad, D0, e0, rfl, h1, h2, h3⟩ := at_L8 (Kd.C_below HS3.out HF.out.below) (k : Int) (by omega) (by omega)
          simp only [rd_L8, Int.toNat_natCast] at h1 h2 h3
          obtain ⟨xs, hxs⟩ : ∃ xs, l3.getD k [] = xs := ⟨_, rfl⟩
          rw [hxs] at h1 h2 h3
          have HX3 := Aside0.mk h3
          have CC : Aside0 (∀ W, Fr wr W [] → Calls Tryd.prog 15 #[.slice D0 xs.length e0, .int .i64 names.length] W fun e w' => ∃ A m c, e = .returned (.slice A m c) ∧ Fr W w' []) := ⟨fun W h => fit_calls D0 e0 xs names.length (by have := HLF.out; omega) W (Kd.C_below HX3.out h.below) h2⟩
          clear h3 hxs
          have q0 : wr.cell? ⟨w.heap.size, 0, none⟩ = some (.slice A0 names.length c0) := blk_cell HX.out 0
          have q3 : wr.cell? ⟨w.heap.size + 1, 3, none⟩ = some (.slice (some ad) l3.length d3) := blk_cell HS.out 3
          have q17 : wr.cell? ⟨g, 17, none⟩ = some (.slice Av nv cv) := blk_cell HG.out 17
          have HNG := Aside0.mk (show g ∉ (Value.slice Av nv cv).ownBlock.toList from fun h => by have := HOB.out _ (by simpa using h); omega)
          have HNX := Aside0.mk (show w.heap.size ∉ (Value.slice Av nv cv).ownBlock.toList from fun h => by have := HOB.out _ (by simpa using h); omega)
          have HNS := Aside0.mk (show w.heap.size + 1 ∉ (Value.slice Av nv cv).ownBlock.toList from fun h => by have := HOB.out _ (by simpa using h); omega)
          go_upto_region 13 with fail
          refine start_ (n := 19) (S := (fun w' => w'.cell? ⟨g, 17, none⟩ = some (.slice Av nv cv) ∧ w'.cell? ⟨w.heap.size + 1, 3, none⟩ = some (.slice (some ad) l3.length d3) ∧ w'.cell? ⟨w.heap.size, 0, none⟩ = some (.slice A0 names.length c0) ∧ w'.cell? (ad.add k) = some (.slice D0 xs.length e0))) (ds := [15, 18]) #[false, false, false, false, false, false, false, false, false, false, false, false, false, false, false, false, false, false, false] (by kernel_rfl) rfl rfl ⟨q17, q3, q0, h1⟩ (fun hHeld => ?_)
          refine pure_ (i := 0) (N := some 50) (v := ?_) (a' := ?_) #[true, false, false, false, false, false, false, false, false, false, false, false, false, false, false, false, false, false, false] rfl rfl (by kernel_rfl) (fun _ _ _ h => h) (Or.inl ⟨by rfl, ?_⟩) ?_ ?_
          rotate_left
          · intro w'
            go_simp
            with_reducible rfl
          rotate_left
          · simp only [Act.put, lS, lZ, lU, i64_w, i32_w]
            rfl
          refine pure_ (i := 1) (N := some 51) (v := ?_) (a' := ?_) #[true, true, false, false, false, false, false, false, false, false, false, false, false, false, false, false, false, false, false] rfl rfl (by kernel_rfl) (fun _ _ _ h => h) (Or.inl ⟨by rfl, ?_⟩) ?_ ?_
          rotate_left
          · intro w'
            go_simp
            with_reducible rfl
          rotate_left
          · simp only [Act.put, lS, lZ, lU, i64_w, i32_w]
            rfl
          refine pure_ (i := 2) (N := some 52) (v := ?_) (a' := ?_) #[true, true, true, false, false, false, false, false, false, false, false, false, false, false, false, false, false, false, false] rfl rfl (by kernel_rfl) (fun _ _ _ h => h) (Or.inl ⟨by rfl, ?_⟩) ?_ ?_
          rotate_left
          · intro w'
            go_simp
            with_reducible rfl
          rotate_left
          · simp only [Act.put, lS, lZ, lU, i64_w, i32_w]
            rfl
          refine pure_ (i := 3) (N := some 53) (v := ?_) (a' := ?_) #[true, true, true, true, false, false, false, false, false, false, false, false, false, false, false, false, false, false, false] rfl rfl (by kernel_rfl) (fun _ _ _ h => h) (Or.inl ⟨by rfl, ?_⟩) ?_ ?_
          rotate_left
          · intro w'
            go_simp
            with_reducible rfl
          rotate_left
          · simp only [Act.put, lS, lZ, lU, i64_w, i32_w]
            rfl
          refine take_ (i := 4) (N := some 54) (v := ?_) (a' := ?_) #[true, true, true, true, true, false, false, false, false, false, false, false, false, false, false, false, false, false, false] rfl rfl (by kernel_rfl) (fun _ _ _ h => h) (Or.inl ⟨by rfl, ?_⟩) hHeld ?_ ?_
          rotate_left
          · rintro w' ⟨s0, s1, s2, s3⟩
            go_simp
            with_reducible rfl
          rotate_left
          · simp only [Act.put, lS, lZ, lU, i64_w, i32_w]
            rfl
          refine pure_ (i := 5) (N := some 55) (v := ?_) (a' := ?_) #[true, true, true, true, true, true, false, false, false, false, false, false, false, false, false, false, false, false, false] rfl rfl (by kernel_rfl) (fun _ _ _ h => h) (Or.inl ⟨by rfl, ?_⟩) ?_ ?_
          rotate_left
          · intro w'
            go_simp
            with_reducible rfl
          rotate_left
          · simp only [Act.put, lS, lZ, lU, i64_w, i32_w]
            rfl
          refine take_ (i := 6) (N := some 56) (v := ?_) (a' := ?_) #[true, true, true, true, true, true, true, false, false, false, false, false, false, false, false, false, false, false, false] rfl rfl (by kernel_rfl) (fun _ _ _ h => h) (Or.inl ⟨by rfl, ?_⟩) hHeld ?_ ?_
          rotate_left
          · rintro w' ⟨s0, s1, s2, s3⟩
            go_simp
            with_reducible rfl
          rotate_left
          · simp only [Act.put, lS, lZ, lU, i64_w, i32_w]
            rfl
          refine pure_ (i := 7) (N := some 57) (v := ?_) (a' := ?_) #[true, true, true, true, true, true, true, true, false, false, false, false, false, false, false, false, false, false, false] rfl rfl (by kernel_rfl) (fun _ _ _ h => h) (Or.inl ⟨by rfl, ?_⟩) ?_ ?_
          rotate_left
          · intro w'
            go_simp
            with_reducible rfl
          rotate_left
          · simp only [Act.put, lS, lZ, lU, i64_w, i32_w]
            rfl
          refine pure_ (i := 8) (N := some 58) (v := ?_) (a' := ?_) #[true, true, true, true, true, true, true, true, true, false, false, false, false, false, false, false, false, false, false] rfl rfl (by kernel_rfl) (fun _ _ _ h => h) (Or.inl ⟨by rfl, ?_⟩) ?_ ?_
          rotate_left
          · intro w'
            go_simp
            with_reducible rfl
          rotate_left
          · simp only [Act.put, lS, lZ, lU, i64_w, i32_w]
            rfl
          refine take_ (i := 9) (N := some 59) (v := ?_) (a' := ?_) #[true, true, true, true, true, true, true, true, true, true, false, false, false, false, false, false, false, false, false] rfl rfl (by kernel_rfl) (fun _ _ _ h => h) (Or.inl ⟨by rfl, ?_⟩) hHeld ?_ ?_
          rotate_left
          · rintro w' ⟨s0, s1, s2, s3⟩
            go_simp
            with_reducible rfl
          rotate_left
          · simp only [Act.put, lS, lZ, lU, i64_w, i32_w]
            rfl
          refine pure_ (i := 10) (N := some 60) (v := ?_) (a' := ?_) #[true, true, true, true, true, true, true, true, true, true, true, false, false, false, false, false, false, false, false] rfl rfl (by kernel_rfl) (fun _ _ _ h => h) (Or.inl ⟨by rfl, ?_⟩) ?_ ?_
          rotate_left
          · intro w'
            go_simp
            with_reducible rfl
          rotate_left
          · simp only [Act.put, lS, lZ, lU, i64_w, i32_w]
            rfl
          refine take_ (i := 11) (N := some 61) (v := ?_) (a' := ?_) #[true, true, true, true, true, true, true, true, true, true, true, true, false, false, false, false, false, false, false] rfl rfl (by kernel_rfl) (fun _ _ _ h => h) (Or.inl ⟨by rfl, ?_⟩) hHeld ?_ ?_
          rotate_left
          · rintro w' ⟨s0, s1, s2, s3⟩
            go_simp
            with_reducible rfl
          rotate_left
          · simp only [Act.put, lS, lZ, lU, i64_w, i32_w]
            rfl
          refine pure_ (i := 12) (N := some 62) (v := ?_) (a' := ?_) #[true, true, true, true, true, true, true, true, true, true, true, true, true, false, false, false, false, false, false] rfl rfl (by kernel_rfl) (fun _ _ _ h => h) (Or.inl ⟨by rfl, ?_⟩) ?_ ?_
          rotate_left
          · intro w'
            go_simp
            with_reducible rfl
          rotate_left
          · simp only [Act.put, lS, lZ, lU, i64_w, i32_w]
            rfl
          refine one_ (i := 13) (N := some 63) #[true, true, true, true, true, true, true, true, true, true, true, true, true, true, false, false, false, false, false] rfl rfl (by kernel_rfl) (by decide) (fun K hK => ?_)
          refine goes_ (f := 15) Tryd.func15 (by rfl) (by rfl) #[.slice D0 xs.length e0, .int .i64 names.length] (by rfl) rfl rfl (by first | (go_simp; done) | (go_simp; rfl) | rfl) ?_
          refine (CC.out _ FQ).mono ?_
          rintro e W2 ⟨A4, m4, c4, rfl, hF4⟩
          have HF4 : Aside0 (Fr wr W2 []) := ⟨Fr.trans (M := []) FQ hF4 (by simp)⟩
          have HFG4 := Aside0.mk (HF4.out.blk HG.out (by simp))
          have HFX4 := Aside0.mk (HF4.out.blk HX.out (by simp))
          have HFS4 := Aside0.mk (HF4.out.blk HS.out (by simp))
          have HO4 := Aside0.mk (own_fr HO.out (L := []) HF4.out (fun _ _ => List.not_mem_nil))
          have h4 := fr_at h1 HF4.out (by simp)
          refine ⟨_, rfl, hK.out _ _ ⟨blk_cell HFG4.out 17, blk_cell HFS4.out 3, blk_cell HFX4.out 0, h4⟩ ?_⟩
          clear hF4 hK K
          intro hHeld4
          refine norm_ (a' := ?_) ?_ ?_
          rotate_left
          · show Act.put _ (some 63) _ = _
            simp only [Act.put, lS, lZ, lU, i64_w, i32_w]
            rfl
          refine one_ (i := 14) (N := some 64) #[true, true, true, true, true, true, true, true, true, true, true, true, true, true, true, false, false, false, false] rfl rfl (by kernel_rfl) (by decide) (fun K hK => ?_)
          refine value_ (w1 := ?_) (v := ?_) (by rfl) rfl ?_ ?_
          rotate_left 2
          · go_simp
            constructor
            · rfl
            · rfl
          refine hK.out _ _ ⟨blk_cell (blk_alloc HFG4.out (.cells #[.slice A4 m4 c4] 42)) 17, blk_cell (blk_alloc HFS4.out (.cells #[.slice A4 m4 c4] 42)) 3, blk_cell (blk_alloc HFX4.out (.cells #[.slice A4 m4 c4] 42)) 0, fr_at (L := []) h4 FQ (by simp)⟩ ?_
          clear hK K
          intro hHeld6
          refine norm_ (a' := ?_) ?_ ?_
          rotate_left
          · show Act.put _ (some 64) _ = _
            simp only [Act.put, lS, lZ, lU, i64_w, i32_w]
            rfl
          refine last_ (i := 15) (N := some 65) #[true, true, true, true, true, true, true, true, true, true, true, true, true, true, true, true, false, false, false] rfl rfl (by kernel_rfl) (by decide) (fun K hK => ?_)
          refine step1 27 42 24 (.slice none 0 0) (.tmp 54) (.tmp 64) rfl rfl Tryd.underlying27 infoC rfl (.slice Av nv cv) nn vals ⟨W2.heap.size, 0, none⟩ (.slice A4 m4 c4) rfl rfl (own_fr HO4.out (L := []) FQ (fun _ _ => List.not_mem_nil)) (by exact blk_cell (blk_newN rfl) 0) rfl (by have := HNV.out; omega) (by omega) ?_
          intro v7 W7 hO7 hg7 hat7
          obtain ⟨A7', m7, c7', hv7⟩ := own_isSlice hO7
          subst hv7
          have HO7 := Aside0.mk hO7
          have HAT7 := Aside0.mk hat7
          have HG7 := Aside0.mk (Fr.grown (Fr.refl _ (Value.slice Av nv cv).ownBlock.toList) hg7 (fun k hk => .inl (by simp [hk])))
          have HFG7 := Aside0.mk (HG7.out.blk (by (with_reducible (repeat (first | apply blk_drew | apply blk_alloc | apply blk_set))); exact HFG4.out) HNG.out)
          have HFX7 := Aside0.mk (HG7.out.blk (by (with_reducible (repeat (first | apply blk_drew | apply blk_alloc | apply blk_set))); exact HFX4.out) HNX.out)
          have HFS7 := Aside0.mk (HG7.out.blk (by (with_reducible (repeat (first | apply blk_drew | apply blk_alloc | apply blk_set))); exact HFS4.out) HNS.out)
          have q7 : W7.cell? ⟨g, 17, none⟩ = some (.slice Av nv cv) := blk_cell HFG7.out 17
          have zz7 := blk_frozen HFG7.out 17
          clear hO7 hg7 hat7
          refine hK.out _ _ ?_
          clear hK K
          refine norm_ (a' := ?_) ?_ ?_
          rotate_left
          · show Act.put _ (some 65) _ = _
            simp only [Act.put, lS, lZ, lU, i64_w, i32_w]
            rfl
          refine pure_ (i := 16) (N := some 66) (v := ?_) (a' := ?_) #[true, true, true, true, true, true, true, true, true, true, true, true, true, true, true, true, true, false, false] rfl rfl (by kernel_rfl) (fun _ _ _ h => h) (Or.inl ⟨by rfl, ?_⟩) ?_ ?_
          rotate_left
          · intro w'
            go_simp
            with_reducible rfl
          rotate_left
          · simp only [Act.put, lS, lZ, lU, i64_w, i32_w]
            rfl
          refine pure_ (i := 17) (N := some 67) (v := ?_) (a' := ?_) #[true, true, true, true, true, true, true, true, true, true, true, true, true, true, true, true, true, true, false] rfl rfl (by kernel_rfl) (fun _ _ _ h => h) (Or.inl ⟨by rfl, ?_⟩) ?_ ?_
          rotate_left
          · intro w'
            go_simp
            with_reducible rfl
          rotate_left
          · simp only [Act.put, lS, lZ, lU, i64_w, i32_w]
            rfl
          refine last_ (i := 18) (N := none) #[true, true, true, true, true, true, true, true, true, true, true, true, true, true, true, true, true, true, true] rfl rfl (by kernel_rfl) (by decide) (fun K hK => ?_)
          refine skip_ (w1 := ?_) (by rfl) rfl ?_ ?_
          rotate_left
          · go_simp
            rfl
          refine hK.out _ _ ?_
          clear hK K
          refine done_ (by kernel_rfl) ?_
          try go_wp2
          go_roundg (l3.length - (k + 1))
          case measure => have := HM.out; omega
          case rel =>
            have hob : ∀ i, (Value.slice A7' m7 c7').ownBlock = some i → g < i := by
              intro i hi
              rcases HAT7.out with h9 | h9
              · exact HOB.out i (h9 ▸ hi)
              · rw [h9] at hi
                have h8 := HF4.out.size
                simp at hi
                omega
            have hfa : Fr w (W2.alloc (.cells #[.slice A4 m4 c4] 42)) [] := by (with_reducible (repeat (first | exact Fr.refl _ _ | refine Fr.drew ?_ | refine Fr.drewN ?_ _ | refine Fr.alloc ?_ _ | refine Fr.setCell ?_ _ _ ?_))); exact HF.out.trans HF4.out (by simp)
            have hfb : Fr w W7 [] := hfa.trans HG7.out (fun i hi => .inr (by have := HOB.out i (by simpa using hi); omega))
            exact ⟨k + 1, A7', m7, c7', nn + 1, _, by go_num, by omega, ⟨Nat.le_refl _⟩, ⟨hfb.setCell _ _ (.inr (by simp; omega))⟩, ⟨at_far HFX7.out HNE.out.1 _⟩, ⟨at_far HFS7.out HNE.out.2 _⟩, ⟨blk_to (blk_set HFG7.out 17 _) rfl⟩, ⟨own_fr HO7.out (Fr.set W7 ⟨g, 17, none⟩ (.slice A7' m7 c7')) (fun i hi => by have := hob i hi; simp; omega)⟩, ⟨by have := HNV.out; omega⟩, ⟨hob⟩⟩
        · obtain rfl : k = l3.length := by omega
          have n3 : decide (l3.length < l3.length) = false := by simp
          have q3 := blk_cell HS.out 3
          go_wp2
          go_ret2
          exact ⟨by (with_reducible (repeat (first | exact Fr.refl _ _ | refine Fr.drew ?_ | refine Fr.drewN ?_ _ | refine Fr.alloc ?_ _ | refine Fr.setCell ?_ _ _ ?_))); exact HF.out, _, rfl⟩
set_option maxHeartbeats 4000000 in
set_option maxRecDepth 100000 in
theorem r16Valid_calls (A0 : Option Addr) (c0 : Nat) (names : List ByteArray) (A1 : Option Addr) (c1 : Nat) (curs : List ByteArray) (A2 : Option Addr) (c2 : Nat) (pool : List Int) (hor cel slo sta : Int) (A7 : Option Addr) (c7 : Nat) (days : List S41) (a0 a1 : Int) (B2 : Option Addr) (d2 : Nat) (l2 : List Int) (B3 : Option Addr) (d3 : Nat) (l3 : List (List S69)) (a4 a5 : Int) (w : World) (hr0 : Kd.C Kd.string w A0 names.length names) (hc0 : names.length ≤ c0) (hr1 : Kd.C Kd.string w A1 curs.length curs) (hc1 : curs.length ≤ c1) (hr2 : Kd.C (Kd.int .i64) w A2 pool.length pool) (hr7 : Kd.C k41 w A7 days.length days) (hc7 : days.length ≤ c7)
    (hs2 : Kd.C (Kd.int .i64) w B2 l2.length l2) (hd2 : l2.length ≤ d2) (hs3 : Kd.C (Kd.slice 69 k69) w B3 l3.length l3) (hd3 : l3.length ≤ d3) (hdl : ∀ s ∈ days, s.f1.length ≤ 10000000000000) (hsz : ∀ s ∈ names, s.size ≤ 9223372036854775806) (G : TabW w) :
    Calls Tryd.prog 7 #[.agg #[.slice A0 names.length c0, .slice A1 curs.length c1, .slice A2 pool.length c2, .int .i64 hor, .int .i64 cel, .int .i64 slo, .int .i64 sta, .slice A7 days.length c7], .agg #[.int .i64 a0, .int .i64 a1, .slice B2 l2.length d2, .slice B3 l3.length d3, .int .i64 a4, .int .i64 a5]] w (SvPost (validP names curs pool hor cel slo sta days a0 a1 l2 l3 a4 a5) w) := by
  obtain ⟨V, hV⟩ : ∃ x, validP names curs pool hor cel slo sta days a0 a1 l2 l3 a4 a5 = x := ⟨_, rfl⟩
  rw [hV]
  have CR : Aside0 (∀ W, Fr w W [] → Calls Tryd.prog 9 #[.agg #[.slice A0 names.length c0, .slice A1 curs.length c1, .slice A2 pool.length c2, .int .i64 hor, .int .i64 cel, .int .i64 slo, .int .i64 sta, .slice A7 days.length c7], .agg #[.int .i64 a0, .int .i64 a1, .slice B2 l2.length d2, .slice B3 l3.length d3, .int .i64 a4, .int .i64 a5]] W (ResPost V W)) := ⟨fun W h => hV ▸ rResume_calls A0 c0 names A1 c1 curs A2 c2 pool hor cel slo sta A7 c7 days a0 a1 B2 d2 l2 B3 d3 l3 a4 a5 W (Kd.C_below hr0 h.below) hc0 (Kd.C_below hr1 h.below) hc1 (Kd.C_below hr2 h.below) (Kd.C_below hr7 h.below) hc7 (Kd.C_below hs2 h.below) hd2 (Kd.C_below hs3 h.below) hd3 hdl hsz (G.fr0 h)⟩
  clear hr0 hr1 hr2 hr7 hs2 hs3 hdl hsz G hV
  have hup := Tryd.underlying26
  have hus := Tryd.underlying30
  go_enter Tryd.func7, Tryd.ntmps7
  go_wp2_with (first | (go_at_call 9; (with_reducible refine (CR.out _ ?_).mono ?_); (next => exact FQ); rintro e W1 ⟨hF1, pv, rfl⟩; have HF1 : Aside0 (Fr w W1 []) := ⟨Fr.trans (M := []) FQ hF1 (by simp)⟩; clear hF1))
  go_ret
  exact ⟨rfl, by (with_reducible (repeat (first | exact Fr.refl _ _ | refine Fr.drew ?_ | refine Fr.drewN ?_ _ | refine Fr.alloc ?_ _ | refine Fr.setCell ?_ _ _ ?_))); exact HF1.out⟩
end Go.Proofs.YtmfbdmjgkcijcaaDoor.H
