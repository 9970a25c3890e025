/- machine.Resume, save.Valid. -/
import Derived.Test.YtmfbdmjgkcijcaaDoorZV
import Derived.Test.YtmfbdmjgkcijcaaDoorZKB
namespace Go.Proofs.YtmfbdmjgkcijcaaDoor.H
open Go.RowKit Go.Proofs.YtmfbdmjgkcijcaaDoorW.PrintWords Go.Proofs.YtmfbdmjgkcijcaaDoorW.PrintLast Go.Proofs.YtmfbdmjgkcijcaaDoorW.PrintMore
open Go.ChangeMaps (setBlock)
attribute [local go_sem] max2_int min2_int max_two min_two max_three min_three max_four min_four
set_option linter.unusedVariables false
set_option linter.unusedSimpArgs false
open Go.Proofs.YtmfbdmjgkcijcaaDoor.M
theorem lists_facts {names curs : List ByteArray} {pool : List Int} {hor cel slo sta : Int} (h : listsB names curs pool hor cel slo sta = true) : names.length ≤ 64 ∧ curs.length ≤ 4096 ∧ pool.length ≤ 16384 ∧ 0 ≤ hor ∧ hor ≤ 3660 ∧ 0 ≤ cel ∧ cel ≤ 32768 ∧ 0 ≤ slo ∧ slo ≤ 16384 := by
  simp only [listsB, withinB, Bool.and_eq_true, Bool.not_eq_true', decide_eq_false_iff_not, decide_eq_true_eq] at h
  omega
theorem ver0 {names curs : List ByteArray} {pool : List Int} {hor cel slo sta : Int} {days : List S41} (h : (verifyP names curs pool hor cel slo sta days).1.1 = 0) : listsB names curs pool hor cel slo sta = true ∧ days.length ≤ 1000000 ∧ ∀ s ∈ days, DayOk s := by
  unfold verifyP at h
  by_cases hc : canonP names curs pool hor cel slo sta days = 0
  · exact canonP_ok hc
  · rw [if_pos hc] at h
    exact absurd h hc
/-- What save.Valid tells. -/
def validP (names curs : List ByteArray) (pool : List Int) (hor cel slo sta : Int) (days : List S41) (a0 a1 : Int) (l2 : List Int) (l3 : List (List S69)) (a4 a5 : Int) : Int :=
  if (verifyP names curs pool hor cel slo sta days).1.1 ≠ 0 then (verifyP names curs pool hor cel slo sta days).1.1 else
  if mayB names.length hor cel (verifyP names curs pool hor cel slo sta days).2.back days a0 a1 l2 l3 a4 a5 = true then 0 else 5
theorem may_small {nn : Nat} {hor cel pba : Int} {days : List S41} {a0 a1 : Int} {l2 : List Int} {l3 : List (List S69)} {a4 a5 : Int} (h : mayB nn hor cel pba days a0 a1 l2 l3 a4 a5 = true) : (l2.length : Int) = cel ∧ (l3.length : Int) ≤ hor + 1 ∧ ∀ r ∈ l3, r.length = nn := by
  unfold mayB at h
  by_cases h1 : a0 < 0 ∨ hor + 1 < a0 ∨ a1 < 0 ∨ (l2.length : Int) ≠ cel ∨ (l3.length : Int) ≠ if pba < a0 then pba else a0
  · rw [if_pos h1] at h; cases h
  rw [if_neg h1] at h
  by_cases h2 : (sumB a0 days : Int) < a1 ∨ (a0 = 0 ∧ l2.any (fun s => !(decide (s = 0))) = true)
  · rw [if_pos h2] at h; cases h
  rw [if_neg h2] at h
  by_cases h3 : l3.any (rowBad nn) = true
  · rw [if_pos h3] at h; cases h
  have hm : (if pba < a0 then pba else a0) ≤ a0 := by split <;> omega
  generalize (if pba < a0 then pba else a0) = mn at h1 hm
  refine ⟨by omega, by omega, fun r hr => ?_⟩
  have h4 : rowBad nn r = false := by
    cases hb : rowBad nn r
    · rfl
    · exact absurd (List.any_eq_true.2 ⟨r, hr, hb⟩) h3
  simp only [rowBad, Bool.or_eq_false_iff, Bool.not_eq_false', decide_eq_true_eq] at h4
  exact h4.1
def ResPost (r : Int) (w : World) (e : Ending) (w' : World) : Prop := Fr w w' [] ∧ ∃ pv, e = .returned (.tuple #[pv, .int .i64 r])
set_option maxHeartbeats 4000000 in
set_option maxRecDepth 100000 in
theorem resume_calls (A0 : Option Addr) (c0 : Nat) (names : List ByteArray) (A1 : Option Addr) (c1 : Nat) (curs : List ByteArray) (A2 : Option Addr) (c2 : Nat) (pool : List Int) (hor cel slo sta : Int) (A7 : Option Addr) (c7 : Nat) (days : List S41) (a0 a1 : Int) (B2 : Option Addr) (d2 : Nat) (l2 : List Int) (B3 : Option Addr) (d3 : Nat) (l3 : List (List S69)) (a4 a5 : Int) (w : World) (hr0 : Kd.C Kd.string w A0 names.length names) (hc0 : names.length ≤ c0) (hr1 : Kd.C Kd.string w A1 curs.length curs) (hc1 : curs.length ≤ c1) (hr2 : Kd.C (Kd.int .i64) w A2 pool.length pool) (hc2 : pool.length ≤ c2) (hr7 : Kd.C k41 w A7 days.length days) (hc7 : days.length ≤ c7)
    (hs2 : Kd.C (Kd.int .i64) w B2 l2.length l2) (hd2 : l2.length ≤ d2) (hs3 : Kd.C (Kd.slice 69 k69) w B3 l3.length l3) (hd3 : l3.length ≤ d3) (hpl : pool.length ≤ 100000000000000) (hdl : ∀ s ∈ days, s.f1.length ≤ 10000000000000) (G : TabW w) :
    Calls Tryd.prog 8 #[.agg #[.slice A0 names.length c0, .slice A1 curs.length c1, .slice A2 pool.length c2, .int .i64 hor, .int .i64 cel, .int .i64 slo, .int .i64 sta, .slice A7 days.length c7], .agg #[.int .i64 a0, .int .i64 a1, .slice B2 l2.length d2, .slice B3 l3.length d3, .int .i64 a4, .int .i64 a5]] w (ResPost (validP names curs pool hor cel slo sta days a0 a1 l2 l3 a4 a5) w) := by
  obtain ⟨R, hR⟩ : ∃ x, verifyP names curs pool hor cel slo sta days = x := ⟨_, rfl⟩
  have hv0 := fun h => ver0 (names := names) (curs := curs) (pool := pool) (hor := hor) (cel := cel) (slo := slo) (sta := sta) (days := days) h
  have CM : Aside0 (∀ W, Fr w W [] → Calls Tryd.prog 10 #[.agg #[.slice A0 names.length c0, .slice A1 curs.length c1, .slice A2 pool.length c2, .int .i64 hor, .int .i64 cel, .int .i64 slo, .int .i64 sta, .slice A7 days.length c7]] W (MadePost R names.length hor cel slo sta days W)) := ⟨fun W h => hR ▸ made_calls A0 c0 names A1 c1 curs A2 c2 pool hor cel slo sta A7 c7 days W (Kd.C_below hr0 h.below) hc0 (Kd.C_below hr1 h.below) hc1 (Kd.C_below hr2 h.below) hc2 (Kd.C_below hr7 h.below) hc7 hpl hdl (fun h0 => by
    obtain ⟨h1, h2, h3⟩ := hv0 h0
    have := lists_facts h1
    exact ⟨by omega, by omega, by omega, fun s hs => Nat.le_trans (h3 s hs).2.1 (by omega), by omega⟩) (G.fr0 h)⟩
  obtain ⟨V, hV⟩ : ∃ x, validP names curs pool hor cel slo sta days a0 a1 l2 l3 a4 a5 = x := ⟨_, rfl⟩
  rw [hV]
  unfold validP at hV
  rw [hR] at hV hv0
  obtain ⟨⟨err, dd, kk⟩, acc⟩ := R
  simp only at hV hv0
  have HS2 := Aside0.mk hs2
  have HS3 := Aside0.mk hs3
  clear hr0 hr1 hr2 hr7 G hdl hpl hR hs2 hs3
  have hup := Tryd.underlying26
  have hus := Tryd.underlying30
  by_cases hz : err = 0
  case neg =>
    rw [if_pos hz] at hV
    subst hV
    have hz1 : (err == 0) = false := by simpa using hz
    have hz2 : (err != 0) = true := by simpa using hz
    clear hz hv0
    have CM2 : Aside0 (∀ W, Fr w W [] → Calls Tryd.prog 10 #[.agg #[.slice A0 names.length c0, .slice A1 curs.length c1, .slice A2 pool.length c2, .int .i64 hor, .int .i64 cel, .int .i64 slo, .int .i64 sta, .slice A7 days.length c7]] W fun e W' => ∃ pv, e = .returned (.tuple #[pv, .int .i64 err]) ∧ Fr W W' []) := ⟨fun W h => (CM.out W h).mono fun e W' ⟨hf, pv, he, _⟩ => ⟨pv, he, hf⟩⟩
    clear CM
    go_enter Tryd.func8, Tryd.ntmps8
    go_wp2_with (first | (go_at_call 10; (with_reducible refine (CM2.out _ ?_).mono ?_); (next => exact FQ); rintro e W1 ⟨pv, rfl, hF1⟩; have HF1 : Aside0 (Fr w W1 []) := ⟨Fr.trans (M := []) FQ hF1 (by simp)⟩; clear hF1))
    go_ret2
    exact ⟨by (with_reducible (repeat (first | exact Fr.refl _ _ | refine Fr.drew ?_ | refine Fr.drewN ?_ _ | refine Fr.alloc ?_ _ | refine Fr.setCell ?_ _ _ ?_))); exact HF1.out, _, rfl⟩
  case pos =>
    subst hz
    rw [if_neg (fun h => h rfl)] at hV
    obtain ⟨hli, hdn, hdo⟩ := hv0 rfl
    have hlf := lists_facts hli
    obtain ⟨mb, hmb⟩ : ∃ x, mayB names.length hor cel acc.back days a0 a1 l2 l3 a4 a5 = x := ⟨_, rfl⟩
    rw [hmb] at hV
    have HDO := Aside0.mk hdo
    have HLF := Aside0.mk hlf
    have HSM : Aside0 (mb = true → l2.length ≤ 1000000000000 ∧ l3.length ≤ 1000000 ∧ ∀ s ∈ l3, s.length ≤ 1000000000) := ⟨fun h => by
      obtain ⟨h1, h2, h3⟩ := may_small (hmb.trans h)
      exact ⟨by omega, by omega, fun s hs => by rw [h3 s hs]; omega⟩⟩
    have CMY : Aside0 (∀ W g, Fr w W [] → Mach W g names.length hor cel slo sta acc.stack acc.fuel acc.back days → Calls Tryd.prog 11 #[.pointer (some ⟨g, 0, none⟩), .agg #[.int .i64 a0, .int .i64 a1, .slice B2 l2.length d2, .slice B3 l3.length d3, .int .i64 a4, .int .i64 a5]] W (MayPost mb W)) := ⟨fun W g h hm => hmb ▸ may_calls g names.length hor cel slo sta acc.stack acc.fuel acc.back days a0 a1 B2 d2 l2 B3 d3 l3 a4 a5 W hm ⟨by omega, by omega⟩ hdn (fun s hs => (HDO.out s hs).2.1) (Kd.C_below HS2.out h.below) hd2 (Kd.C_below HS3.out h.below) hd3⟩
    have CM2 : Aside0 (∀ W, Fr w W [] → Calls Tryd.prog 10 #[.agg #[.slice A0 names.length c0, .slice A1 curs.length c1, .slice A2 pool.length c2, .int .i64 hor, .int .i64 cel, .int .i64 slo, .int .i64 sta, .slice A7 days.length c7]] W fun e W' => ∃ g, e = .returned (.tuple #[.pointer (some ⟨g, 0, none⟩), .int .i64 0]) ∧ Fr W W' [] ∧ W.heap.size ≤ g ∧ Mach W' g names.length hor cel slo sta acc.stack acc.fuel acc.back days) := ⟨fun W h => (CM.out W h).mono fun e W' ⟨hf, pv, he, hm⟩ => by
      obtain ⟨g, h1, h2, h3⟩ := hm rfl
      exact ⟨g, by rw [he, h1], hf, h2, h3⟩⟩
    clear CM hmb hli hdo hlf hv0
    go_enter Tryd.func8, Tryd.ntmps8
    go_upto_region 4 with (first | (go_at_call 10; (with_reducible refine (CM2.out _ ?_).mono ?_); (next => exact FQ); rintro e W1 ⟨g, rfl, hF1, hg1, hM1⟩; have HX1 := Aside0.mk (hF1.blk (g := w.heap.size + 1) (blk_newN (by simp)) (by simp)); have HF1 : Aside0 (Fr w W1 []) := ⟨Fr.trans (M := []) FQ hF1 (by simp)⟩; have HM1 := Aside0.mk hM1; have hxl := blk_lt HX1.out; have x0 := blk_cell HX1.out 0; have x1 := blk_cell HX1.out 1; have x2 := blk_cell HX1.out 2; have x3 := blk_cell HX1.out 3; have x4 := blk_cell HX1.out 4; have x5 := blk_cell HX1.out 5; clear hF1 hM1))
    have hgw : w.heap.size + 1 + 1 ≤ g := by simpa using hg1
    clear hg1
    cases mb
    case false =>
      obtain rfl : 5 = V := by simpa using hV
      go_wp2_with (first | (go_at_call 11; (with_reducible refine (CMY.out _ _ HF1.out HM1.out).mono ?_); rintro e W2 ⟨rfl, hF2⟩; have HF2 := Aside0.mk (HF1.out.trans hF2 (by simp)); clear hF2))
      go_ret2
      exact ⟨by (with_reducible (repeat (first | exact Fr.refl _ _ | refine Fr.drew ?_ | refine Fr.drewN ?_ _ | refine Fr.alloc ?_ _ | refine Fr.setCell ?_ _ _ ?_))); exact HF2.out, _, rfl⟩
    case true =>
      obtain rfl : 0 = V := by simpa using hV
      obtain ⟨k2, k3, k4⟩ := HSM.out rfl
      have CP : Aside0 (∀ W, Fr w W [] → Calls Tryd.prog 12 #[.agg #[.int .i64 a0, .int .i64 a1, .slice B2 l2.length d2, .slice B3 l3.length d3, .int .i64 a4, .int .i64 a5]] W (CopyPost W)) := ⟨fun W h => copied_calls a0 a1 B2 d2 l2 B3 d3 l3 a4 a5 W (Kd.C_below HS2.out h.below) hd2 k2 (Kd.C_below HS3.out h.below) hd3 k3 k4⟩
      clear k4
      obtain ⟨E0, e0, y1, y2, E7, e7, m, es, clk, hb, _, _, _⟩ := HM1.out
      have HBG := Aside0.mk hb
      clear hb
      go_wp2_with (first | (go_at_call 11; (with_reducible refine (CMY.out _ _ HF1.out HM1.out).mono ?_); rintro e W2 ⟨rfl, hF2⟩; have HF2 := Aside0.mk (HF1.out.trans hF2 (by simp)); have HX2 := Aside0.mk (hF2.blk HX1.out (by simp)); have HB2 := Aside0.mk (hF2.blk HBG.out (by simp)); have u0 := blk_cell HX2.out 0; have u1 := blk_cell HX2.out 1; have u2 := blk_cell HX2.out 2; have u3 := blk_cell HX2.out 3; have u4 := blk_cell HX2.out 4; have u5 := blk_cell HX2.out 5; clear hF2) | (go_at_call 12; (with_reducible refine (CP.out _ HF2.out).mono ?_); rintro e W3 ⟨p0, p1, P2, pn2, pc2, P3, pn3, pc3, p4, p5, rfl, hF3⟩; have HF3 := Aside0.mk (HF2.out.trans hF3 (by simp)); have HB3 := Aside0.mk (hF3.blk HB2.out (by simp)); have hgl := blk_lt HB3.out; have v12 : W3.cell? ⟨g, 12, none⟩ = some (.int .i64 0) := blk_cell HB3.out 12; have v13 : W3.cell? ⟨g, 13, none⟩ = some (.int .i64 0) := blk_cell HB3.out 13; have v14 : W3.cell? ⟨g, 14, none⟩ = some (.slice none 0 0) := blk_cell HB3.out 14; have v15 : W3.cell? ⟨g, 15, none⟩ = some (.slice none 0 0) := blk_cell HB3.out 15; have v16 : W3.cell? ⟨g, 16, none⟩ = some (.int .i64 0) := blk_cell HB3.out 16; have v17 : W3.cell? ⟨g, 17, none⟩ = some (.int .i64 0) := blk_cell HB3.out 17; have z12 := blk_frozen HB3.out 12; have z13 := blk_frozen HB3.out 13; have z14 := blk_frozen HB3.out 14; have z15 := blk_frozen HB3.out 15; have z16 := blk_frozen HB3.out 16; have z17 := blk_frozen HB3.out 17; clear hF3))
      go_ret2
      exact ⟨by (with_reducible (repeat (first | exact Fr.refl _ _ | refine Fr.drew ?_ | refine Fr.drewN ?_ _ | refine Fr.alloc ?_ _ | refine Fr.setCell ?_ _ _ ?_))) <;> first | exact HF3.out | exact .inr (by simp; omega), _, rfl⟩
def SvPost (r : Int) (w : World) (e : Ending) (w' : World) : Prop := e = .returned (.int .i64 r) ∧ Fr w w' []
set_option maxHeartbeats 4000000 in
set_option maxRecDepth 100000 in
theorem sValid_calls (A0 : Option Addr) (c0 : Nat) (names : List ByteArray) (A1 : Option Addr) (c1 : Nat) (curs : List ByteArray) (A2 : Option Addr) (c2 : Nat) (pool : List Int) (hor cel slo sta : Int) (A7 : Option Addr) (c7 : Nat) (days : List S41) (a0 a1 : Int) (B2 : Option Addr) (d2 : Nat) (l2 : List Int) (B3 : Option Addr) (d3 : Nat) (l3 : List (List S69)) (a4 a5 : Int) (w : World) (hr0 : Kd.C Kd.string w A0 names.length names) (hc0 : names.length ≤ c0) (hr1 : Kd.C Kd.string w A1 curs.length curs) (hc1 : curs.length ≤ c1) (hr2 : Kd.C (Kd.int .i64) w A2 pool.length pool) (hc2 : pool.length ≤ c2) (hr7 : Kd.C k41 w A7 days.length days) (hc7 : days.length ≤ c7)
    (hs2 : Kd.C (Kd.int .i64) w B2 l2.length l2) (hd2 : l2.length ≤ d2) (hs3 : Kd.C (Kd.slice 69 k69) w B3 l3.length l3) (hd3 : l3.length ≤ d3) (hpl : pool.length ≤ 100000000000000) (hdl : ∀ s ∈ days, s.f1.length ≤ 10000000000000) (G : TabW w) :
    Calls Tryd.prog 4 #[.agg #[.slice A0 names.length c0, .slice A1 curs.length c1, .slice A2 pool.length c2, .int .i64 hor, .int .i64 cel, .int .i64 slo, .int .i64 sta, .slice A7 days.length c7], .agg #[.int .i64 a0, .int .i64 a1, .slice B2 l2.length d2, .slice B3 l3.length d3, .int .i64 a4, .int .i64 a5]] w (SvPost (validP names curs pool hor cel slo sta days a0 a1 l2 l3 a4 a5) w) := by
  obtain ⟨V, hV⟩ : ∃ x, validP names curs pool hor cel slo sta days a0 a1 l2 l3 a4 a5 = x := ⟨_, rfl⟩
  rw [hV]
  have CR : Aside0 (∀ W, Fr w W [] → Calls Tryd.prog 8 #[.agg #[.slice A0 names.length c0, .slice A1 curs.length c1, .slice A2 pool.length c2, .int .i64 hor, .int .i64 cel, .int .i64 slo, .int .i64 sta, .slice A7 days.length c7], .agg #[.int .i64 a0, .int .i64 a1, .slice B2 l2.length d2, .slice B3 l3.length d3, .int .i64 a4, .int .i64 a5]] W (ResPost V W)) := ⟨fun W h => hV ▸ resume_calls A0 c0 names A1 c1 curs A2 c2 pool hor cel slo sta A7 c7 days a0 a1 B2 d2 l2 B3 d3 l3 a4 a5 W (Kd.C_below hr0 h.below) hc0 (Kd.C_below hr1 h.below) hc1 (Kd.C_below hr2 h.below) hc2 (Kd.C_below hr7 h.below) hc7 (Kd.C_below hs2 h.below) hd2 (Kd.C_below hs3 h.below) hd3 hpl hdl (G.fr0 h)⟩
  clear hr0 hr1 hr2 hr7 hs2 hs3 hdl hpl G hV
  have hup := Tryd.underlying26
  have hus := Tryd.underlying30
  go_enter Tryd.func4, Tryd.ntmps4
  go_wp2_with (first | (go_at_call 8; (with_reducible refine (CR.out _ ?_).mono ?_); (next => exact FQ); rintro e W1 ⟨hF1, pv, rfl⟩; have HF1 : Aside0 (Fr w W1 []) := ⟨Fr.trans (M := []) FQ hF1 (by simp)⟩; clear hF1))
  go_ret
  exact ⟨rfl, by (with_reducible (repeat (first | exact Fr.refl _ _ | refine Fr.drew ?_ | refine Fr.drewN ?_ _ | refine Fr.alloc ?_ _ | refine Fr.setCell ?_ _ _ ?_))); exact HF1.out⟩
end Go.Proofs.YtmfbdmjgkcijcaaDoor.H
