/- The reference's Fit, Resume and Valid: printed by mkRR.py. -/
import Derived.Test.YtpoehkacfmljcaaGreatDoorZV
import Derived.Test.YtpoehkacfmljcaaGreatDoorZRO
import Derived.Test.YtpoehkacfmljcaaGreatDoorZPA
import Derived.Test.YtpoehkacfmljcaaGreatDoorZWK
import Derived.Test.YtpoehkacfmljcaaGreatDoorZKB
import Derived.Test.YtpoehkacfmljcaaGreatDoorZOB
set_option maxHeartbeats 4000000
set_option maxRecDepth 100000
namespace Go.Proofs.YtpoehkacfmljcaaGreatDoor.H
open Go.RowKit Go.Proofs.YtpoehkacfmljcaaGreatDoorW.PrintWords Go.Proofs.YtpoehkacfmljcaaGreatDoorW.PrintLast Go.Proofs.YtpoehkacfmljcaaGreatDoorW.PrintMore
open Go.ChangeMaps (setBlock)
attribute [local go_sem] max2_int min2_int max_two min_two max_three min_three max_four min_four
set_option linter.unusedVariables false
set_option linter.unusedSimpArgs false
open Go.Proofs.YtpoehkacfmljcaaGreatDoor.M
theorem rResume_calls (A0 : Option Addr) (c0 : Nat) (names : List ByteArray) (A1 : Option Addr) (c1 : Nat) (curs : List ByteArray) (A2 : Option Addr) (c2 : Nat) (pool : List Int) (hor cel slo sta : Int) (A7 : Option Addr) (c7 : Nat) (days : List S54) (a0 a1 : Int) (B2 : Option Addr) (d2 : Nat) (l2 : List Int) (B3 : Option Addr) (d3 : Nat) (l3 : List (List S45)) (a4 a5 : Int) (w : World) (hr0 : Kd.C Kd.string w A0 names.length names) (hc0 : names.length ≤ c0) (hr1 : Kd.C Kd.string w A1 curs.length curs) (hc1 : curs.length ≤ c1) (hr2 : Kd.C (Kd.int .i64) w A2 pool.length pool) (hr7 : Kd.C k54 w A7 days.length days) (hc7 : days.length ≤ c7)
  (hs2 : Kd.C (Kd.int .i64) w B2 l2.length l2) (hd2 : l2.length ≤ d2) (hs3 : Kd.C (Kd.slice 45 k45) w B3 l3.length l3) (hd3 : l3.length ≤ d3) (hdl : ∀ s ∈ days, s.f1.length ≤ 10000000000000) (hsz : ∀ s ∈ names, s.size ≤ 9223372036854775806) (G : TabW w) :
  Calls Tryz.prog 24 #[.agg #[.slice A0 names.length c0, .slice A1 curs.length c1, .slice A2 pool.length c2, .int .i64 hor, .int .i64 cel, .int .i64 slo, .int .i64 sta, .slice A7 days.length c7], .agg #[.int .i64 a0, .int .i64 a1, .slice B2 l2.length d2, .slice B3 l3.length d3, .int .i64 a4, .int .i64 a5]] w (ResPost (validP names curs pool hor cel slo sta days a0 a1 l2 l3 a4 a5) w) := by
 obtain ⟨R, hR⟩ : ∃ x, verifyR names curs pool hor cel slo sta days = x := ⟨_, rfl⟩
 have hv0 := fun h => ver0R (names := names) (curs := curs) (pool := pool) (hor := hor) (cel := cel) (slo := slo) (sta := sta) (days := days) h
 have hrel := verify_rel names curs pool hor cel slo sta days
 have CM : Aside0 (∀ W, Fr w W [] → Calls Tryz.prog 40 #[.agg #[.slice A0 names.length c0, .slice A1 curs.length c1, .slice A2 pool.length c2, .int .i64 hor, .int .i64 cel, .int .i64 slo, .int .i64 sta, .slice A7 days.length c7]] W (NewPost R A0 names.length c0 (.slice A1 curs.length c1) (.slice A2 pool.length c2) hor cel slo sta A7 days.length c7 W)) := ⟨fun W h => hR ▸ new_calls A0 c0 names A1 c1 curs A2 c2 pool hor cel slo sta A7 c7 days W (Kd.C_below hr0 h.below) hc0 (Kd.C_below hr1 h.below) hc1 (Kd.C_below hr2 h.below) (Kd.C_below hr7 h.below) hc7 hdl hsz (G.fr0 h)⟩
 obtain ⟨V, hV⟩ : ∃ x, validP names curs pool hor cel slo sta days a0 a1 l2 l3 a4 a5 = x := ⟨_, rfl⟩
 rw [hV]
 unfold validP at hV
 rw [hR] at hv0 hrel
 obtain ⟨err, acc⟩ := R
 simp only at hv0 hrel
 rw [hrel.1] at hV
 have HS2 := AsM hs2
 have HS3 := AsM hs3
 have HR7 := AsM hr7
 clear hr0 hr1 hr2 hr7 G hdl hsz hR hs2 hs3
 have hup := Tryz.underlying26
 have huq := Tryz.underlying76
 have hus := Tryz.underlying30
 have hum := Tryz.underlying105
 by_cases hz : err = 0
 case neg =>
  rw [if_pos hz] at hV
  subst hV
  have hz2 : (err != 0) = true := by simpa using hz
  clear hz hv0 hrel
  have CM2 : Aside0 (∀ W, Fr w W [] → Calls Tryz.prog 40 #[.agg #[.slice A0 names.length c0, .slice A1 curs.length c1, .slice A2 pool.length c2, .int .i64 hor, .int .i64 cel, .int .i64 slo, .int .i64 sta, .slice A7 days.length c7]] W fun e W' => ∃ pv, e = .returned (.tuple #[pv, .int .i64 err]) ∧ Fr W W' []) := ⟨fun W h => (CM.out W h).mono fun e W' ⟨hf, pv, he, _⟩ => ⟨pv, he, hf⟩⟩
  clear CM
  go_enter Tryz.func24, Tryz.ntmps24
  go_wp2_with (first | (go_at_call 40; (with_reducible refine (CM2.out _ ?_).mono ?_); (next => exact FQ); rintro e W1 ⟨pv, rfl, hF1⟩; have HF1 : Aside0 (Fr w W1 []) := ⟨Fr.trans (M := []) FQ hF1 (by simp)⟩; clear hF1))
  go_ret2
  exact ⟨FX HF1.out, _, rfl⟩
 case pos =>
  subst hz
  rw [if_neg (fun h => h rfl), hrel.2 rfl] at hV
  obtain ⟨hli, hdn, hdo⟩ := hv0 rfl
  have hlf := lists_facts hli
  obtain ⟨mb, hmb⟩ : ∃ x, mayB names.length hor cel acc.back days a0 a1 l2 l3 a4 a5 = x := ⟨_, rfl⟩
  rw [hmb] at hV
  have HDO := AsM hdo
  have HLF := AsM hlf
  have HSM : Aside0 (mb = true → l2.length ≤ 1000000 ∧ l3.length ≤ 1000000 ∧ ∀ s ∈ l3, s.length = names.length) := ⟨fun h => by
   obtain ⟨h1, h2, h3⟩ := may_small (hmb.trans h)
   exact ⟨by omega, by omega, h3⟩⟩
  have CMY : Aside0 (∀ W, Fr w W [] → Calls Tryz.prog 41 #[.agg #[.slice A0 names.length c0, .slice A1 curs.length c1, .slice A2 pool.length c2, .int .i64 hor, .int .i64 cel, .int .i64 slo, .int .i64 sta, .slice A7 days.length c7], .agg #[.int .i64 acc.stack, .int .i64 acc.fuel, .int .i64 acc.back], .agg #[.int .i64 a0, .int .i64 a1, .slice B2 l2.length d2, .slice B3 l3.length d3, .int .i64 a4, .int .i64 a5]] W (MayPost mb W)) := ⟨fun W h => hmb ▸ is_calls A0 names.length c0 A1 curs.length c1 A2 pool.length c2 hor cel slo sta A7 c7 days acc.stack acc.fuel acc.back a0 a1 B2 d2 l2 B3 d3 l3 a4 a5 W ⟨by omega, by omega⟩ hdn (fun s hs => (HDO.out s hs).2.1) (Kd.C_below HR7.out h.below) (Kd.C_below HS2.out h.below) (Kd.C_below HS3.out h.below)⟩
  have CM2 : Aside0 (∀ W, Fr w W [] → Calls Tryz.prog 40 #[.agg #[.slice A0 names.length c0, .slice A1 curs.length c1, .slice A2 pool.length c2, .int .i64 hor, .int .i64 cel, .int .i64 slo, .int .i64 sta, .slice A7 days.length c7]] W fun e W' => ∃ g q m c, e = .returned (.tuple #[.pointer (some ⟨g, 0, none⟩), .int .i64 0]) ∧ Fr W W' [] ∧ W.heap.size ≤ g ∧ W'.heap[g]? = some (.cells (refCells A0 names.length c0 (.slice A1 curs.length c1) (.slice A2 pool.length c2) hor cel slo sta A7 days.length c7 acc.stack acc.fuel acc.back (.slice (some ⟨q, 0, none⟩) m c)) 105 (0, 0))) := ⟨fun W h => (CM.out W h).mono fun e W' ⟨hf, pv, he, hm⟩ => by
   obtain ⟨g, q, m, c, h1, h2, h3⟩ := hm rfl
   exact ⟨g, q, m, c, by rw [he, h1], hf, h2, h3⟩⟩
  clear CM hmb hli hdo hv0 hrel
  go_enter Tryz.func24, Tryz.ntmps24
  go_upto_region 4 with (first | (go_at_call 40; (with_reducible refine (CM2.out _ ?_).mono ?_); (next => exact FQ); rintro e W1 ⟨g, q, m, c, rfl, hF1, hg1, hM1⟩; have HX1 := AsM (hF1.blk (g := w.heap.size) (blk_alloc (blk_newN rfl) _) (by simp)); have HS1 := AsM (hF1.blk (g := w.heap.size + 1) (blk_newN (by simp)) (by simp)); have HF1 : Aside0 (Fr w W1 []) := ⟨Fr.trans (M := []) FQ hF1 (by simp)⟩; have HM1 := AsM hM1; clear hF1 hM1))
  have hgw : w.heap.size + 1 + 1 ≤ g := by simpa using hg1
  have HNE := AsM (show w.heap.size ≠ g ∧ w.heap.size + 1 ≠ g from ⟨by omega, by omega⟩)
  clear hg1 CM2
  obtain ⟨x0, x1, x2, x3, x4, x5, x6, x7⟩ := cc8 HX1.out
  obtain ⟨s0, s1, s2, s3, s4, s5⟩ := cc6 HS1.out
  have g8 : W1.cell? ⟨g, 8, none⟩ = some (.int .i64 acc.stack) := blk_cell HM1.out 8
  have g9 : W1.cell? ⟨g, 9, none⟩ = some (.int .i64 acc.fuel) := blk_cell HM1.out 9
  have g10 : W1.cell? ⟨g, 10, none⟩ = some (.int .i64 acc.back) := blk_cell HM1.out 10
  go_region_held3 (fun w' => w'.cell? ⟨w.heap.size, 0, none⟩ = some (.slice A0 names.length c0) ∧ w'.cell? ⟨w.heap.size, 1, none⟩ = some (.slice A1 curs.length c1) ∧ w'.cell? ⟨w.heap.size, 2, none⟩ = some (.slice A2 pool.length c2) ∧ w'.cell? ⟨w.heap.size, 3, none⟩ = some (.int .i64 hor) ∧ w'.cell? ⟨w.heap.size, 4, none⟩ = some (.int .i64 cel) ∧ w'.cell? ⟨w.heap.size, 5, none⟩ = some (.int .i64 slo) ∧ w'.cell? ⟨w.heap.size, 6, none⟩ = some (.int .i64 sta) ∧ w'.cell? ⟨w.heap.size, 7, none⟩ = some (.slice A7 days.length c7) ∧ w'.cell? ⟨w.heap.size + 1, 0, none⟩ = some (.int .i64 a0) ∧ w'.cell? ⟨w.heap.size + 1, 1, none⟩ = some (.int .i64 a1) ∧ w'.cell? ⟨w.heap.size + 1, 2, none⟩ = some (.slice B2 l2.length d2) ∧ w'.cell? ⟨w.heap.size + 1, 3, none⟩ = some (.slice B3 l3.length d3) ∧ w'.cell? ⟨w.heap.size + 1, 4, none⟩ = some (.int .i64 a4) ∧ w'.cell? ⟨w.heap.size + 1, 5, none⟩ = some (.int .i64 a5) ∧ w'.cell? ⟨g, 8, none⟩ = some (.int .i64 acc.stack) ∧ w'.cell? ⟨g, 9, none⟩ = some (.int .i64 acc.fuel) ∧ w'.cell? ⟨g, 10, none⟩ = some (.int .i64 acc.back)) (first | exact ⟨x0, x1, x2, x3, x4, x5, x6, x7, s0, s1, s2, s3, s4, s5, g8, g9, g10⟩ | go_keep) (first | (go_simp; go_at_call 41; (with_reducible refine (CMY.out _ ?_).mono ?_); (next => exact FX HF1.out); rintro e W2 ⟨rfl, hF2⟩; have HX2 := AsM (hF2.blk (g := w.heap.size) (by (with_reducible (repeat (first | apply blk_drew | apply blk_alloc | apply blk_set))); first | exact HX1.out | exact blk_drewN HX1.out _) (by simp)); have HS2' := AsM (hF2.blk (g := w.heap.size + 1) (by (with_reducible (repeat (first | apply blk_drew | apply blk_alloc | apply blk_set))); first | exact HS1.out | exact blk_drewN HS1.out _) (by simp)); have HM2 := AsM (hF2.blk (g := g) (by (with_reducible (repeat (first | apply blk_drew | apply blk_alloc | apply blk_set))); first | exact HM1.out | exact blk_drewN HM1.out _) (by simp)); have HF2 : Aside0 (Fr w W2 []) := ⟨Fr.trans (M := []) (FX HF1.out) hF2 (by simp)⟩; obtain ⟨xx0, xx1, xx2, xx3, xx4, xx5, xx6, xx7⟩ := cc8 HX2.out; have ss0 := blk_cell HS2'.out 0; have ss1 := blk_cell HS2'.out 1; have ss2 := blk_cell HS2'.out 2; have ss3 := blk_cell HS2'.out 3; have ss4 := blk_cell HS2'.out 4; have ss5 := blk_cell HS2'.out 5; have gg8 : W2.cell? ⟨g, 8, none⟩ = some (.int .i64 acc.stack) := blk_cell HM2.out 8; have gg9 : W2.cell? ⟨g, 9, none⟩ = some (.int .i64 acc.fuel) := blk_cell HM2.out 9; have gg10 : W2.cell? ⟨g, 10, none⟩ = some (.int .i64 acc.back) := blk_cell HM2.out 10; clear hF2))
  go_upto_region 5 with fail
  refine name_ (fun V => Aside0 (Fr w V []) ∧ Aside0 (V.heap[w.heap.size]? = some (.cells #[.slice A0 names.length c0, .slice A1 curs.length c1, .slice A2 pool.length c2, .int .i64 hor, .int .i64 cel, .int .i64 slo, .int .i64 sta, .slice A7 days.length c7] 26 (0, 0))) ∧ Aside0 (V.heap[w.heap.size + 1]? = some (.cells #[.int .i64 a0, .int .i64 a1, .slice B2 l2.length d2, .slice B3 l3.length d3, .int .i64 a4, .int .i64 a5] 30 (0, 0))) ∧ Aside0 (V.heap[g]? = some (.cells (refCells A0 names.length c0 (.slice A1 curs.length c1) (.slice A2 pool.length c2) hor cel slo sta A7 days.length c7 acc.stack acc.fuel acc.back (.slice (some ⟨q, 0, none⟩) m c)) 105 (0, 0)))) ⟨⟨FX HF2.out⟩, ⟨by (with_reducible (repeat (first | apply blk_drew | apply blk_alloc | apply blk_set))); first | exact HX2.out | exact blk_drewN HX2.out _⟩, ⟨by (with_reducible (repeat (first | apply blk_drew | apply blk_alloc | apply blk_set))); first | exact HS2'.out | exact blk_drewN HS2'.out _⟩, ⟨by (with_reducible (repeat (first | apply blk_drew | apply blk_alloc | apply blk_set))); first | exact HM2.out | exact blk_drewN HM2.out _⟩⟩ ?_
  clear x0 x1 x2 x3 x4 x5 x6 x7 s0 s1 s2 s3 s4 s5 g8 g9 g10 xx0 xx1 xx2 xx3 xx4 xx5 xx6 xx7 ss0 ss1 ss2 ss3 ss4 ss5 gg8 gg9 gg10 HX1 HS1 HM1 HX2 HS2' HM2 HF1 HF2 CMY
  rintro W3 ⟨HF3, HX3, HS3', HM3⟩
  cases mb
  case false =>
   obtain rfl : 5 = V := by simpa using hV
   go_wp2
   go_ret2
   exact ⟨FX HF3.out, _, rfl⟩
  case true =>
   obtain rfl : 0 = V := by simpa using hV
   obtain ⟨k2, k3, k4⟩ := HSM.out rfl
   have K4 := AsM k4
   clear k4 HSM
   have hgl := blk_lt HM3.out
   have hsl := blk_lt HS3'.out
   have s0 := blk_cell HS3'.out 0
   have s1 := blk_cell HS3'.out 1
   have s2 := blk_cell HS3'.out 2
   have s3 := blk_cell HS3'.out 3
   have s4 := blk_cell HS3'.out 4
   have s5 := blk_cell HS3'.out 5
   have g11 : W3.cell? ⟨g, 11, none⟩ = some (.int .i64 0) := blk_cell HM3.out 11
   have g12 : W3.cell? ⟨g, 12, none⟩ = some (.int .i64 0) := blk_cell HM3.out 12
   have g13 : W3.cell? ⟨g, 13, none⟩ = some (.slice (some ⟨q, 0, none⟩) m c) := blk_cell HM3.out 13
   have g14 : W3.cell? ⟨g, 14, none⟩ = some (.slice none 0 0) := blk_cell HM3.out 14
   have g15 : W3.cell? ⟨g, 15, none⟩ = some (.int .i64 0) := blk_cell HM3.out 15
   have g16 : W3.cell? ⟨g, 16, none⟩ = some (.int .i64 0) := blk_cell HM3.out 16
   have f11 := blk_frozen HM3.out 11
   have f12 := blk_frozen HM3.out 12
   have f13 := blk_frozen HM3.out 13
   have f14 := blk_frozen HM3.out 14
   have f15 := blk_frozen HM3.out 15
   have f16 := blk_frozen HM3.out 16
   go_upto_region 8 with fail
   refine name_ (fun V => Aside0 (Fr w V []) ∧ Aside0 (V.heap[w.heap.size]? = some (.cells #[.slice A0 names.length c0, .slice A1 curs.length c1, .slice A2 pool.length c2, .int .i64 hor, .int .i64 cel, .int .i64 slo, .int .i64 sta, .slice A7 days.length c7] 26 (0, 0))) ∧ Aside0 (V.heap[w.heap.size + 1]? = some (.cells #[.int .i64 a0, .int .i64 a1, .slice B2 l2.length d2, .slice B3 l3.length d3, .int .i64 a4, .int .i64 a5] 30 (0, 0))) ∧ Aside0 (V.heap[g]? = some (.cells #[.slice A0 names.length c0, .slice A1 curs.length c1, .slice A2 pool.length c2, .int .i64 hor, .int .i64 cel, .int .i64 slo, .int .i64 sta, .slice A7 days.length c7, .int .i64 acc.stack, .int .i64 acc.fuel, .int .i64 acc.back, .int .i64 a0, .int .i64 a1, .slice B2 l2.length d2, .slice B3 l3.length d3, .int .i64 a4, .int .i64 a5, .slice none 0 0] 105 (0, 0)))) ⟨⟨by (with_reducible (repeat (first | exact Fr.refl _ _ | refine Fr.drew ?_ | refine Fr.drewN ?_ _ | refine Fr.alloc ?_ _ | refine Fr.setCell ?_ _ _ ?_))) <;> first | exact HF3.out | exact .inr (by show w.heap.size ≤ g; omega)⟩, ⟨at_far (at_far (at_far (at_far (at_far (at_far HX3.out HNE.out.1 _) HNE.out.1 _) HNE.out.1 _) HNE.out.1 _) HNE.out.1 _) HNE.out.1 _⟩, ⟨at_far (at_far (at_far (at_far (at_far (at_far HS3'.out HNE.out.2 _) HNE.out.2 _) HNE.out.2 _) HNE.out.2 _) HNE.out.2 _) HNE.out.2 _⟩, ⟨blk_to (blk_set (blk_set (blk_set (blk_set (blk_set (blk_set HM3.out 11 _) 12 _) 13 _) 14 _) 15 _) 16 _) rfl⟩⟩ ?_
   clear s0 s1 s2 s3 s4 s5 g11 g12 g13 g14 g15 g16 f11 f12 f13 f14 f15 f16 HX3 HS3' HM3 HF3 hgl hsl
   rintro W4 ⟨HF4, HX4, HS4', HM4⟩
   have hsl := blk_lt HS4'.out
   have hgl := blk_lt HM4.out
   have s2 := blk_cell HS4'.out 2
   have HCL : Aside0 (Kd.C (Kd.int .i64) W4 B2 l2.length l2) := ⟨Kd.C_below HS2.out HF4.out.below⟩
   go_upto_region 9 with (first | (at_builtin; (refine Kd.R_append_rows (Kd.int .i64) (w0 := W4) W4.heap.size rfl (.tmp 32) (.tmp 34) 23 3 (.int .i64 0) 8 rfl Tryz.underlying23 info3 rfl (by decide) (by decide) _ [] l2 B2 l2.length d2 (fun _ => True) (fun _ => False) rfl rfl (empty_R _ _ W4) (Kd.C_alloc HCL.out _) (fun _ _ h => h) (fun _ h => h.elim) (fun _ _ => trivial) (below_alloc (Below.refl _ _) _) (by simp) (by simp; omega) ?_); intro v1 w1 ho hb hg hat; obtain ⟨E2, y2, rfl⟩ := Kd.R_slice ho; have HF5 : Aside0 (Fr W4 w1 []) := ⟨Fr.grown (L := []) (Fr.alloc (Fr.refl W4 []) _) hg (fun k hk => .inr (by injection hk with hk; simp at hk; omega))⟩; have HM5 := AsM (HF5.out.blk HM4.out (by simp)); have g13 := blk_cell HM5.out 13; have f13 := blk_frozen HM5.out 13; have hgl5 := blk_lt HM5.out; clear ho hb hg hat))
   refine name_ (fun V => Aside0 (Fr w V []) ∧ Aside0 (V.heap[w.heap.size]? = some (.cells #[.slice A0 names.length c0, .slice A1 curs.length c1, .slice A2 pool.length c2, .int .i64 hor, .int .i64 cel, .int .i64 slo, .int .i64 sta, .slice A7 days.length c7] 26 (0, 0))) ∧ Aside0 (V.heap[w.heap.size + 1]? = some (.cells #[.int .i64 a0, .int .i64 a1, .slice B2 l2.length d2, .slice B3 l3.length d3, .int .i64 a4, .int .i64 a5] 30 (0, 0))) ∧ Aside0 (V.heap[g]? = some (.cells #[.slice A0 names.length c0, .slice A1 curs.length c1, .slice A2 pool.length c2, .int .i64 hor, .int .i64 cel, .int .i64 slo, .int .i64 sta, .slice A7 days.length c7, .int .i64 acc.stack, .int .i64 acc.fuel, .int .i64 acc.back, .int .i64 a0, .int .i64 a1, .slice E2 l2.length y2, .slice B3 l3.length d3, .int .i64 a4, .int .i64 a5, .slice none 0 0] 105 (0, 0)))) ⟨⟨by (with_reducible (repeat (first | exact Fr.refl _ _ | refine Fr.drew ?_ | refine Fr.drewN ?_ _ | refine Fr.alloc ?_ _ | refine Fr.setCell ?_ _ _ ?_))) <;> first | exact HF4.out.trans HF5.out (by simp) | exact .inr (by show w.heap.size ≤ g; omega)⟩, ⟨at_far (HF5.out.blk HX4.out (by simp)) HNE.out.1 _⟩, ⟨at_far (HF5.out.blk HS4'.out (by simp)) HNE.out.2 _⟩, ⟨blk_to (blk_set HM5.out 13 _) rfl⟩⟩ ?_
   clear s2 g13 f13 hgl5 HF4 HX4 HS4' HM4 HF5 HM5 hsl hgl HCL
   rintro W5 ⟨HF5, HX5, HS5, HM5⟩
   have hgl := blk_lt HM5.out
   have g14 := blk_cell HM5.out 14
   have f14 := blk_frozen HM5.out 14
   go_upto_region 10 with fail
   refine name_ (fun V => Aside0 (Fr w V []) ∧ Aside0 (V.heap[w.heap.size]? = some (.cells #[.slice A0 names.length c0, .slice A1 curs.length c1, .slice A2 pool.length c2, .int .i64 hor, .int .i64 cel, .int .i64 slo, .int .i64 sta, .slice A7 days.length c7] 26 (0, 0))) ∧ Aside0 (V.heap[w.heap.size + 1]? = some (.cells #[.int .i64 a0, .int .i64 a1, .slice B2 l2.length d2, .slice B3 l3.length d3, .int .i64 a4, .int .i64 a5] 30 (0, 0))) ∧ Aside0 (V.heap[g]? = some (.cells #[.slice A0 names.length c0, .slice A1 curs.length c1, .slice A2 pool.length c2, .int .i64 hor, .int .i64 cel, .int .i64 slo, .int .i64 sta, .slice A7 days.length c7, .int .i64 acc.stack, .int .i64 acc.fuel, .int .i64 acc.back, .int .i64 a0, .int .i64 a1, .slice E2 l2.length y2, .slice none 0 0, .int .i64 a4, .int .i64 a5, .slice none 0 0] 105 (0, 0)))) ⟨⟨by (with_reducible (repeat (first | exact Fr.refl _ _ | refine Fr.drew ?_ | refine Fr.drewN ?_ _ | refine Fr.alloc ?_ _ | refine Fr.setCell ?_ _ _ ?_))) <;> first | exact HF5.out | exact .inr (by show w.heap.size ≤ g; omega)⟩, ⟨at_far HX5.out HNE.out.1 _⟩, ⟨at_far HS5.out HNE.out.2 _⟩, ⟨blk_to (blk_set HM5.out 14 _) rfl⟩⟩ ?_
   clear g14 f14 HF5 HX5 HS5 HM5 hgl
   rintro W6 ⟨HF6, HX6, HS6, HM6⟩
   go_wp2
   go_loopg [9] l3.length (fun kq s9 wr => ∃ (k : Nat) (Av : Option Addr) (nv cv nn : Nat) (vals : List Value), s9 = .int .i64 k ∧ k ≤ l3.length ∧ Aside0 (l3.length - k ≤ kq) ∧ Aside0 (Fr w wr []) ∧ Aside0 (wr.heap[w.heap.size]? = some (.cells #[.slice A0 names.length c0, .slice A1 curs.length c1, .slice A2 pool.length c2, .int .i64 hor, .int .i64 cel, .int .i64 slo, .int .i64 sta, .slice A7 days.length c7] 26 (0, 0))) ∧ Aside0 (wr.heap[w.heap.size + 1]? = some (.cells #[.int .i64 a0, .int .i64 a1, .slice B2 l2.length d2, .slice B3 l3.length d3, .int .i64 a4, .int .i64 a5] 30 (0, 0))) ∧ Aside0 (wr.heap[g]? = some (.cells #[.slice A0 names.length c0, .slice A1 curs.length c1, .slice A2 pool.length c2, .int .i64 hor, .int .i64 cel, .int .i64 slo, .int .i64 sta, .slice A7 days.length c7, .int .i64 acc.stack, .int .i64 acc.fuel, .int .i64 acc.back, .int .i64 a0, .int .i64 a1, .slice E2 l2.length y2, .slice none 0 0, .int .i64 a4, .int .i64 a5, .slice Av nv cv] 105 (0, 0))) ∧ Aside0 (wr.ownsRow 0 39 1 (.slice Av nv cv) nn vals) ∧ Aside0 (nn ≤ k) ∧ Aside0 (∀ i, (Value.slice Av nv cv).ownBlock = some i → g < i))
   case atStart => exact ⟨0, none, 0, 0, 0, [], rfl, Nat.zero_le _, ⟨Nat.le_refl _⟩, HF6, HX6, HS6, HM6, ⟨own_nil _ _ _ _⟩, ⟨Nat.le_refl _⟩, ⟨fun i h => by simp [Value.ownBlock] at h⟩⟩
   case round =>
    clear HF6 HX6 HS6 HM6
    obtain ⟨k, Av, nv, cv, nn, vals, rfl, hk, HM, HF, HX, HS, HG, HO, HNV, HOB⟩ := hrel
    have hxl := blk_lt HX.out
    have hsl := blk_lt HS.out
    have hgl := blk_lt HG.out
    by_cases hkl : k < l3.length
    ·have n3 : decide (k < l3.length) = true := by simpa using hkl
     obtain ⟨ad, D0, e0, rfl, h1, h2, h3⟩ := at_L3 (Kd.C_below HS3.out HF.out.below) (k : Int) (by omega) (by omega)
     simp only [rd_L3, Int.toNat_natCast] at h1 h2 h3
     obtain ⟨xs, hxs⟩ : ∃ xs, l3.getD k [] = xs := ⟨_, rfl⟩
     rw [hxs] at h1 h2 h3
     have HX3 := AsM h3
     have CC : Aside0 (∀ W, Fr wr W [] → Calls Tryz.prog 42 #[.slice D0 xs.length e0, .int .i64 names.length] W fun e w' => ∃ A m c, e = .returned (.slice A m c) ∧ Fr W w' []) := ⟨fun W h => fit_calls D0 e0 xs names.length (by have := HLF.out; omega) W (Kd.C_below HX3.out h.below) h2⟩
     clear h3 hxs
     have q0 : wr.cell? ⟨w.heap.size, 0, none⟩ = some (.slice A0 names.length c0) := blk_cell HX.out 0
     have q3 : wr.cell? ⟨w.heap.size + 1, 3, none⟩ = some (.slice (some ad) l3.length d3) := blk_cell HS.out 3
     have q17 : wr.cell? ⟨g, 17, none⟩ = some (.slice Av nv cv) := blk_cell HG.out 17
     have HNG := AsM (show g ∉ (Value.slice Av nv cv).ownBlock.toList from fun h => by have := HOB.out _ (by simpa using h); omega)
     have HNX := AsM (show w.heap.size ∉ (Value.slice Av nv cv).ownBlock.toList from fun h => by have := HOB.out _ (by simpa using h); omega)
     have HNS := AsM (show w.heap.size + 1 ∉ (Value.slice Av nv cv).ownBlock.toList from fun h => by have := HOB.out _ (by simpa using h); omega)
     go_upto_region 13 with fail
     refine start_ (n := 19) (S := (fun w' => w'.cell? ⟨g, 17, none⟩ = some (.slice Av nv cv) ∧ w'.cell? ⟨w.heap.size + 1, 3, none⟩ = some (.slice (some ad) l3.length d3) ∧ w'.cell? ⟨w.heap.size, 0, none⟩ = some (.slice A0 names.length c0) ∧ w'.cell? (ad.add k) = some (.slice D0 xs.length e0))) (ds := [15, 18]) #[false, false, false, false, false, false, false, false, false, false, false, false, false, false, false, false, false, false, false] (by kernel_rfl) rfl rfl ⟨q17, q3, q0, h1⟩ (fun hHeld => ?_)
     refine pure_ (i := 0) (N := some 50) (v := ?_) (a' := ?_) #[true, false, false, false, false, false, false, false, false, false, false, false, false, false, false, false, false, false, false] rfl rfl (by kernel_rfl) (fun _ _ _ h => h) (Or.inl ⟨by rfl, ?_⟩) ?_ ?_
     rotate_left
     ·intro w'
      go_simp
      with_reducible rfl
     rotate_left
     ·simp only [Act.put, lS, lZ, lU, i64_w, i32_w]
      rfl
     refine pure_ (i := 1) (N := some 51) (v := ?_) (a' := ?_) #[true, true, false, false, false, false, false, false, false, false, false, false, false, false, false, false, false, false, false] rfl rfl (by kernel_rfl) (fun _ _ _ h => h) (Or.inl ⟨by rfl, ?_⟩) ?_ ?_
     rotate_left
     ·intro w'
      go_simp
      with_reducible rfl
     rotate_left
     ·simp only [Act.put, lS, lZ, lU, i64_w, i32_w]
      rfl
     refine pure_ (i := 2) (N := some 52) (v := ?_) (a' := ?_) #[true, true, true, false, false, false, false, false, false, false, false, false, false, false, false, false, false, false, false] rfl rfl (by kernel_rfl) (fun _ _ _ h => h) (Or.inl ⟨by rfl, ?_⟩) ?_ ?_
     rotate_left
     ·intro w'
      go_simp
      with_reducible rfl
     rotate_left
     ·simp only [Act.put, lS, lZ, lU, i64_w, i32_w]
      rfl
     refine pure_ (i := 3) (N := some 53) (v := ?_) (a' := ?_) #[true, true, true, true, false, false, false, false, false, false, false, false, false, false, false, false, false, false, false] rfl rfl (by kernel_rfl) (fun _ _ _ h => h) (Or.inl ⟨by rfl, ?_⟩) ?_ ?_
     rotate_left
     ·intro w'
      go_simp
      with_reducible rfl
     rotate_left
     ·simp only [Act.put, lS, lZ, lU, i64_w, i32_w]
      rfl
     refine take_ (i := 4) (N := some 54) (v := ?_) (a' := ?_) #[true, true, true, true, true, false, false, false, false, false, false, false, false, false, false, false, false, false, false] rfl rfl (by kernel_rfl) (fun _ _ _ h => h) (Or.inl ⟨by rfl, ?_⟩) hHeld ?_ ?_
     rotate_left
     ·rintro w' ⟨s0, s1, s2, s3⟩
      go_simp
      with_reducible rfl
     rotate_left
     ·simp only [Act.put, lS, lZ, lU, i64_w, i32_w]
      rfl
     refine pure_ (i := 5) (N := some 55) (v := ?_) (a' := ?_) #[true, true, true, true, true, true, false, false, false, false, false, false, false, false, false, false, false, false, false] rfl rfl (by kernel_rfl) (fun _ _ _ h => h) (Or.inl ⟨by rfl, ?_⟩) ?_ ?_
     rotate_left
     ·intro w'
      go_simp
      with_reducible rfl
     rotate_left
     ·simp only [Act.put, lS, lZ, lU, i64_w, i32_w]
      rfl
     refine take_ (i := 6) (N := some 56) (v := ?_) (a' := ?_) #[true, true, true, true, true, true, true, false, false, false, false, false, false, false, false, false, false, false, false] rfl rfl (by kernel_rfl) (fun _ _ _ h => h) (Or.inl ⟨by rfl, ?_⟩) hHeld ?_ ?_
     rotate_left
     ·rintro w' ⟨s0, s1, s2, s3⟩
      go_simp
      with_reducible rfl
     rotate_left
     ·simp only [Act.put, lS, lZ, lU, i64_w, i32_w]
      rfl
     refine pure_ (i := 7) (N := some 57) (v := ?_) (a' := ?_) #[true, true, true, true, true, true, true, true, false, false, false, false, false, false, false, false, false, false, false] rfl rfl (by kernel_rfl) (fun _ _ _ h => h) (Or.inl ⟨by rfl, ?_⟩) ?_ ?_
     rotate_left
     ·intro w'
      go_simp
      with_reducible rfl
     rotate_left
     ·simp only [Act.put, lS, lZ, lU, i64_w, i32_w]
      rfl
     refine pure_ (i := 8) (N := some 58) (v := ?_) (a' := ?_) #[true, true, true, true, true, true, true, true, true, false, false, false, false, false, false, false, false, false, false] rfl rfl (by kernel_rfl) (fun _ _ _ h => h) (Or.inl ⟨by rfl, ?_⟩) ?_ ?_
     rotate_left
     ·intro w'
      go_simp
      with_reducible rfl
     rotate_left
     ·simp only [Act.put, lS, lZ, lU, i64_w, i32_w]
      rfl
     refine take_ (i := 9) (N := some 59) (v := ?_) (a' := ?_) #[true, true, true, true, true, true, true, true, true, true, false, false, false, false, false, false, false, false, false] rfl rfl (by kernel_rfl) (fun _ _ _ h => h) (Or.inl ⟨by rfl, ?_⟩) hHeld ?_ ?_
     rotate_left
     ·rintro w' ⟨s0, s1, s2, s3⟩
      go_simp
      with_reducible rfl
     rotate_left
     ·simp only [Act.put, lS, lZ, lU, i64_w, i32_w]
      rfl
     refine pure_ (i := 10) (N := some 60) (v := ?_) (a' := ?_) #[true, true, true, true, true, true, true, true, true, true, true, false, false, false, false, false, false, false, false] rfl rfl (by kernel_rfl) (fun _ _ _ h => h) (Or.inl ⟨by rfl, ?_⟩) ?_ ?_
     rotate_left
     ·intro w'
      go_simp
      with_reducible rfl
     rotate_left
     ·simp only [Act.put, lS, lZ, lU, i64_w, i32_w]
      rfl
     refine take_ (i := 11) (N := some 61) (v := ?_) (a' := ?_) #[true, true, true, true, true, true, true, true, true, true, true, true, false, false, false, false, false, false, false] rfl rfl (by kernel_rfl) (fun _ _ _ h => h) (Or.inl ⟨by rfl, ?_⟩) hHeld ?_ ?_
     rotate_left
     ·rintro w' ⟨s0, s1, s2, s3⟩
      go_simp
      with_reducible rfl
     rotate_left
     ·simp only [Act.put, lS, lZ, lU, i64_w, i32_w]
      rfl
     refine pure_ (i := 12) (N := some 62) (v := ?_) (a' := ?_) #[true, true, true, true, true, true, true, true, true, true, true, true, true, false, false, false, false, false, false] rfl rfl (by kernel_rfl) (fun _ _ _ h => h) (Or.inl ⟨by rfl, ?_⟩) ?_ ?_
     rotate_left
     ·intro w'
      go_simp
      with_reducible rfl
     rotate_left
     ·simp only [Act.put, lS, lZ, lU, i64_w, i32_w]
      rfl
     refine one_ (i := 13) (N := some 63) #[true, true, true, true, true, true, true, true, true, true, true, true, true, true, false, false, false, false, false] rfl rfl (by kernel_rfl) (by decide) (fun K hK => ?_)
     refine goes_ (f := 42) Tryz.func42 (by rfl) (by rfl) #[.slice D0 xs.length e0, .int .i64 names.length] (by rfl) rfl rfl (by first | (go_simp; done) | (go_simp; rfl) | rfl) ?_
     refine (CC.out _ FQ).mono ?_
     rintro e W2 ⟨A4, m4, c4, rfl, hF4⟩
     have HF4 : Aside0 (Fr wr W2 []) := ⟨Fr.trans (M := []) FQ hF4 (by simp)⟩
     have HFG4 := AsM (HF4.out.blk HG.out (by simp))
     have HFX4 := AsM (HF4.out.blk HX.out (by simp))
     have HFS4 := AsM (HF4.out.blk HS.out (by simp))
     have HO4 := AsM (own_fr HO.out (L := []) HF4.out (fun _ _ => List.not_mem_nil))
     have h4 := fr_at h1 HF4.out (by simp)
     refine ⟨_, rfl, hK.out _ _ ⟨blk_cell HFG4.out 17, blk_cell HFS4.out 3, blk_cell HFX4.out 0, h4⟩ ?_⟩
     clear hF4 hK K
     intro hHeld4
     refine norm_ (a' := ?_) ?_ ?_
     rotate_left
     ·show Act.put _ (some 63) _ = _
      simp only [Act.put, lS, lZ, lU, i64_w, i32_w]
      rfl
     refine one_ (i := 14) (N := some 64) #[true, true, true, true, true, true, true, true, true, true, true, true, true, true, true, false, false, false, false] rfl rfl (by kernel_rfl) (by decide) (fun K hK => ?_)
     refine value_ (w1 := ?_) (v := ?_) (by rfl) rfl ?_ ?_
     rotate_left 2
     ·go_simp
      constructor
      ·rfl
      ·rfl
     refine hK.out _ _ ⟨blk_cell (blk_alloc HFG4.out (.cells #[.slice A4 m4 c4] 39)) 17, blk_cell (blk_alloc HFS4.out (.cells #[.slice A4 m4 c4] 39)) 3, blk_cell (blk_alloc HFX4.out (.cells #[.slice A4 m4 c4] 39)) 0, fr_at (L := []) h4 FQ (by simp)⟩ ?_
     clear hK K
     intro hHeld6
     refine norm_ (a' := ?_) ?_ ?_
     rotate_left
     ·show Act.put _ (some 64) _ = _
      simp only [Act.put, lS, lZ, lU, i64_w, i32_w]
      rfl
     refine last_ (i := 15) (N := some 65) #[true, true, true, true, true, true, true, true, true, true, true, true, true, true, true, true, false, false, false] rfl rfl (by kernel_rfl) (by decide) (fun K hK => ?_)
     refine step1 27 39 24 (.slice none 0 0) (.tmp 54) (.tmp 64) rfl rfl Tryz.underlying27 infoC rfl (.slice Av nv cv) nn vals ⟨W2.heap.size, 0, none⟩ (.slice A4 m4 c4) rfl rfl (own_fr HO4.out (L := []) FQ (fun _ _ => List.not_mem_nil)) (by exact blk_cell (blk_newN rfl) 0) rfl (by have := HNV.out; omega) (by omega) ?_
     intro v7 W7 hO7 hg7 hat7
     obtain ⟨A7', m7, c7', hv7⟩ := own_isSlice hO7
     subst hv7
     have HO7 := AsM hO7
     have HAT7 := AsM hat7
     have HG7 := AsM (Fr.grown (Fr.refl _ (Value.slice Av nv cv).ownBlock.toList) hg7 (fun k hk => .inl (by simp [hk])))
     have HFG7 := AsM (HG7.out.blk (by (with_reducible (repeat (first | apply blk_drew | apply blk_alloc | apply blk_set))); exact HFG4.out) HNG.out)
     have HFX7 := AsM (HG7.out.blk (by (with_reducible (repeat (first | apply blk_drew | apply blk_alloc | apply blk_set))); exact HFX4.out) HNX.out)
     have HFS7 := AsM (HG7.out.blk (by (with_reducible (repeat (first | apply blk_drew | apply blk_alloc | apply blk_set))); exact HFS4.out) HNS.out)
     have q7 : W7.cell? ⟨g, 17, none⟩ = some (.slice Av nv cv) := blk_cell HFG7.out 17
     have zz7 := blk_frozen HFG7.out 17
     clear hO7 hg7 hat7
     refine hK.out _ _ ?_
     clear hK K
     refine norm_ (a' := ?_) ?_ ?_
     rotate_left
     ·show Act.put _ (some 65) _ = _
      simp only [Act.put, lS, lZ, lU, i64_w, i32_w]
      rfl
     refine pure_ (i := 16) (N := some 66) (v := ?_) (a' := ?_) #[true, true, true, true, true, true, true, true, true, true, true, true, true, true, true, true, true, false, false] rfl rfl (by kernel_rfl) (fun _ _ _ h => h) (Or.inl ⟨by rfl, ?_⟩) ?_ ?_
     rotate_left
     ·intro w'
      go_simp
      with_reducible rfl
     rotate_left
     ·simp only [Act.put, lS, lZ, lU, i64_w, i32_w]
      rfl
     refine pure_ (i := 17) (N := some 67) (v := ?_) (a' := ?_) #[true, true, true, true, true, true, true, true, true, true, true, true, true, true, true, true, true, true, false] rfl rfl (by kernel_rfl) (fun _ _ _ h => h) (Or.inl ⟨by rfl, ?_⟩) ?_ ?_
     rotate_left
     ·intro w'
      go_simp
      with_reducible rfl
     rotate_left
     ·simp only [Act.put, lS, lZ, lU, i64_w, i32_w]
      rfl
     refine last_ (i := 18) (N := none) #[true, true, true, true, true, true, true, true, true, true, true, true, true, true, true, true, true, true, true] rfl rfl (by kernel_rfl) (by decide) (fun K hK => ?_)
     refine skip_ (w1 := ?_) (by rfl) rfl ?_ ?_
     rotate_left
     ·go_simp
      rfl
     refine hK.out _ _ ?_
     clear hK K
     refine done_ (by kernel_rfl) ?_
     try go_wp2
     go_roundg (l3.length - (k + 1))
     case measure => have := HM.out; omega
     case rel =>
      have hob : ∀ i, (Value.slice A7' m7 c7').ownBlock = some i → g < i := by
       intro i hi
       rcases HAT7.out with h9 | h9
       ·exact HOB.out i (h9 ▸ hi)
       ·rw [h9] at hi
        have h8 := HF4.out.size
        simp at hi
        omega
      have hfa : Fr w (W2.alloc (.cells #[.slice A4 m4 c4] 39)) [] := by (with_reducible (repeat (first | exact Fr.refl _ _ | refine Fr.drew ?_ | refine Fr.drewN ?_ _ | refine Fr.alloc ?_ _ | refine Fr.setCell ?_ _ _ ?_))); exact HF.out.trans HF4.out (by simp)
      have hfb : Fr w W7 [] := hfa.trans HG7.out (fun i hi => .inr (by have := HOB.out i (by simpa using hi); omega))
      exact ⟨k + 1, A7', m7, c7', nn + 1, _, by go_num, by omega, ⟨Nat.le_refl _⟩, ⟨hfb.setCell _ _ (.inr (by simp; omega))⟩, ⟨at_far HFX7.out HNE.out.1 _⟩, ⟨at_far HFS7.out HNE.out.2 _⟩, ⟨blk_to (blk_set HFG7.out 17 _) rfl⟩, ⟨own_fr HO7.out (Fr.set W7 ⟨g, 17, none⟩ (.slice A7' m7 c7')) (fun i hi => by have := hob i hi; simp; omega)⟩, ⟨by have := HNV.out; omega⟩, ⟨hob⟩⟩
    ·obtain rfl : k = l3.length := by omega
     have n3 : decide (l3.length < l3.length) = false := by simp
     have q3 := blk_cell HS.out 3
     go_wp2
     go_ret2
     exact ⟨FX HF.out, _, rfl⟩
theorem r16Valid_calls (A0 : Option Addr) (c0 : Nat) (names : List ByteArray) (A1 : Option Addr) (c1 : Nat) (curs : List ByteArray) (A2 : Option Addr) (c2 : Nat) (pool : List Int) (hor cel slo sta : Int) (A7 : Option Addr) (c7 : Nat) (days : List S54) (a0 a1 : Int) (B2 : Option Addr) (d2 : Nat) (l2 : List Int) (B3 : Option Addr) (d3 : Nat) (l3 : List (List S45)) (a4 a5 : Int) (w : World) (hr0 : Kd.C Kd.string w A0 names.length names) (hc0 : names.length ≤ c0) (hr1 : Kd.C Kd.string w A1 curs.length curs) (hc1 : curs.length ≤ c1) (hr2 : Kd.C (Kd.int .i64) w A2 pool.length pool) (hr7 : Kd.C k54 w A7 days.length days) (hc7 : days.length ≤ c7)
  (hs2 : Kd.C (Kd.int .i64) w B2 l2.length l2) (hd2 : l2.length ≤ d2) (hs3 : Kd.C (Kd.slice 45 k45) w B3 l3.length l3) (hd3 : l3.length ≤ d3) (hdl : ∀ s ∈ days, s.f1.length ≤ 10000000000000) (hsz : ∀ s ∈ names, s.size ≤ 9223372036854775806) (G : TabW w) :
  Calls Tryz.prog 15 #[.agg #[.slice A0 names.length c0, .slice A1 curs.length c1, .slice A2 pool.length c2, .int .i64 hor, .int .i64 cel, .int .i64 slo, .int .i64 sta, .slice A7 days.length c7], .agg #[.int .i64 a0, .int .i64 a1, .slice B2 l2.length d2, .slice B3 l3.length d3, .int .i64 a4, .int .i64 a5]] w (SvPost (validP names curs pool hor cel slo sta days a0 a1 l2 l3 a4 a5) w) := by
 obtain ⟨V, hV⟩ : ∃ x, validP names curs pool hor cel slo sta days a0 a1 l2 l3 a4 a5 = x := ⟨_, rfl⟩
 rw [hV]
 have CR : Aside0 (∀ W, Fr w W [] → Calls Tryz.prog 24 #[.agg #[.slice A0 names.length c0, .slice A1 curs.length c1, .slice A2 pool.length c2, .int .i64 hor, .int .i64 cel, .int .i64 slo, .int .i64 sta, .slice A7 days.length c7], .agg #[.int .i64 a0, .int .i64 a1, .slice B2 l2.length d2, .slice B3 l3.length d3, .int .i64 a4, .int .i64 a5]] W (ResPost V W)) := ⟨fun W h => hV ▸ rResume_calls A0 c0 names A1 c1 curs A2 c2 pool hor cel slo sta A7 c7 days a0 a1 B2 d2 l2 B3 d3 l3 a4 a5 W (Kd.C_below hr0 h.below) hc0 (Kd.C_below hr1 h.below) hc1 (Kd.C_below hr2 h.below) (Kd.C_below hr7 h.below) hc7 (Kd.C_below hs2 h.below) hd2 (Kd.C_below hs3 h.below) hd3 hdl hsz (G.fr0 h)⟩
 clear hr0 hr1 hr2 hr7 hs2 hs3 hdl hsz G hV
 have hup := Tryz.underlying26
 have hus := Tryz.underlying30
 go_enter Tryz.func15, Tryz.ntmps15
 go_wp2_with (first | (go_at_call 24; (with_reducible refine (CR.out _ ?_).mono ?_); (next => exact FQ); rintro e W1 ⟨hF1, pv, rfl⟩; have HF1 : Aside0 (Fr w W1 []) := ⟨Fr.trans (M := []) FQ hF1 (by simp)⟩; clear hF1))
 go_ret
 exact ⟨rfl, FX HF1.out⟩
def PIn (names curs : List ByteArray) (pool : List Int) (days : List S54) (w : World) (A0 : Option Addr) (c0 : Nat) (A1 : Option Addr) (c1 : Nat) (A2 : Option Addr) (c2 : Nat) (A7 : Option Addr) (c7 : Nat) : Prop :=
 (names.length ≤ c0 ∧ Kd.C Kd.string w A0 names.length names) ∧ (curs.length ≤ c1 ∧ Kd.C Kd.string w A1 curs.length curs) ∧ (pool.length ≤ c2 ∧ Kd.C (Kd.int .i64) w A2 pool.length pool) ∧ days.length ≤ c7 ∧ Kd.C k54 w A7 days.length days
def SIn (l2 : List Int) (l3 : List (List S45)) (w : World) (B2 : Option Addr) (d2 : Nat) (B3 : Option Addr) (d3 : Nat) : Prop :=
 (l2.length ≤ d2 ∧ Kd.C (Kd.int .i64) w B2 l2.length l2) ∧ l3.length ≤ d3 ∧ Kd.C (Kd.slice 45 k45) w B3 l3.length l3
theorem PIn.fr {names curs : List ByteArray} {pool : List Int} {days : List S54} {w w' : World} {A0 : Option Addr} {c0 : Nat} {A1 : Option Addr} {c1 : Nat} {A2 : Option Addr} {c2 : Nat} {A7 : Option Addr} {c7 : Nat} (h : PIn names curs pool days w A0 c0 A1 c1 A2 c2 A7 c7) (hf : Fr w w' []) : PIn names curs pool days w' A0 c0 A1 c1 A2 c2 A7 c7 :=
 ⟨⟨h.1.1, Kd.C_below h.1.2 hf.below⟩, ⟨h.2.1.1, Kd.C_below h.2.1.2 hf.below⟩, ⟨h.2.2.1.1, Kd.C_below h.2.2.1.2 hf.below⟩, h.2.2.2.1, Kd.C_below h.2.2.2.2 hf.below⟩
theorem SIn.fr {l2 : List Int} {l3 : List (List S45)} {w w' : World} {B2 : Option Addr} {d2 : Nat} {B3 : Option Addr} {d3 : Nat} (h : SIn l2 l3 w B2 d2 B3 d3) (hf : Fr w w' []) : SIn l2 l3 w' B2 d2 B3 d3 :=
 ⟨⟨h.1.1, Kd.C_below h.1.2 hf.below⟩, h.2.1, Kd.C_below h.2.2 hf.below⟩
theorem may_state {nn : Nat} {hor cel pba : Int} {days : List S54} {a0 a1 : Int} {l2 : List Int} {l3 : List (List S45)} {a4 a5 : Int} (h : mayB nn hor cel pba days a0 a1 l2 l3 a4 a5 = true) (h1 : a1 < 9223372036854775808) (hi2 : ∀ x ∈ l2, -9223372036854775808 ≤ x ∧ x < 9223372036854775808) (hi3 : ∀ r ∈ l3, ∀ c ∈ r, -9223372036854775808 ≤ c.f1 ∧ c.f1 < 9223372036854775808) (hc : cel ≤ 32768) (hh : hor ≤ 3660) (hn : nn ≤ 64) :
  ∃ s : Stt, s.Ok ∧ (s.n0 : Int) = a0 ∧ (s.n1 : Int) = a1 ∧ s.l2 = l2 ∧ s.l3 = l3 ∧ (s.n4 : Int) = a4 ∧ (s.n5 : Int) = a5 := by
 obtain ⟨e2, e3, er⟩ := may_small h
 have hz : 0 ≤ a0 ∧ a0 ≤ hor + 1 ∧ 0 ≤ a1 ∧ 0 ≤ a4 ∧ a4 ≤ 3 ∧ 0 ≤ a5 ∧ a5 ≤ 4000 := by
  unfold mayB at h
  by_cases q1 : a0 < 0 ∨ hor + 1 < a0 ∨ a1 < 0 ∨ (l2.length : Int) ≠ cel ∨ (l3.length : Int) ≠ if pba < a0 then pba else a0
  ·rw [if_pos q1] at h; cases h
  rw [if_neg q1] at h
  by_cases q2 : (sumB a0 days : Int) < a1 ∨ (a0 = 0 ∧ l2.any (fun s => !(decide (s = 0))) = true)
  ·rw [if_pos q2] at h; cases h
  rw [if_neg q2] at h
  by_cases q3 : l3.any (rowBad nn) = true
  ·rw [if_pos q3] at h; cases h
  rw [if_neg q3] at h
  generalize (if pba < a0 then pba else a0) = mn at q1
  by_cases q4 : a4 = 0
  ·rw [if_pos q4] at h
   have h5 : a5 = 0 := of_decide_eq_true h
   omega
  ·rw [if_neg q4] at h
   simp only [Bool.and_eq_true, decide_eq_true_eq] at h
   obtain ⟨⟨⟨⟨k1, k2⟩, k3⟩, k4⟩, _⟩ := h
   omega
 refine ⟨⟨a0.toNat, a1.toNat, l2, l3, a4.toNat, a5.toNat⟩, ⟨?_, ?_, ?_, ?_, ?_, hi2, ?_, fun r hr => ?_, hi3⟩, ?_, ?_, rfl, rfl, ?_, ?_⟩
 all_goals (try simp only)
 all_goals (try omega)
 have := er r hr
 omega
theorem both_calls (names curs : List ByteArray) (pool : List Int) (hor cel slo sta : Int) (days : List S54) (a0 a1 : Int) (l2 : List Int) (l3 : List (List S45)) (a4 a5 : Int) (hpl : pool.length ≤ 100000000000000) (hdl : ∀ s ∈ days, s.f1.length ≤ 10000000000000) (hsz : ∀ s ∈ names, s.size ≤ 9223372036854775806)
  (hip : ∀ x ∈ pool, -9223372036854775808 ≤ x ∧ x < 9223372036854775808) (h1 : a1 < 9223372036854775808) (hi2 : ∀ x ∈ l2, -9223372036854775808 ≤ x ∧ x < 9223372036854775808) (hi3 : ∀ r ∈ l3, ∀ c ∈ r, -9223372036854775808 ≤ c.f1 ∧ c.f1 < 9223372036854775808) :
  ∃ r : List Int × Int, r.1.length ≤ 4194304 ∧ (∀ W A0 c0 A1 c1 A2 c2 A7 c7 B2 d2 B3 d3, TabW W → PIn names curs pool days W A0 c0 A1 c1 A2 c2 A7 c7 → SIn l2 l3 W B2 d2 B3 d3 → Calls Tryz.prog 5 #[.agg #[.slice A0 names.length c0, .slice A1 curs.length c1, .slice A2 pool.length c2, .int .i64 hor, .int .i64 cel, .int .i64 slo, .int .i64 sta, .slice A7 days.length c7], .agg #[.int .i64 a0, .int .i64 a1, .slice B2 l2.length d2, .slice B3 l3.length d3, .int .i64 a4, .int .i64 a5]] W (SavePost r W)) ∧ (∀ W A0 c0 A1 c1 A2 c2 A7 c7 B2 d2 B3 d3, TabW W → PIn names curs pool days W A0 c0 A1 c1 A2 c2 A7 c7 → SIn l2 l3 W B2 d2 B3 d3 → Calls Tryz.prog 7 #[.agg #[.slice A0 names.length c0, .slice A1 curs.length c1, .slice A2 pool.length c2, .int .i64 hor, .int .i64 cel, .int .i64 slo, .int .i64 sta, .slice A7 days.length c7], .agg #[.int .i64 a0, .int .i64 a1, .slice B2 l2.length d2, .slice B3 l3.length d3, .int .i64 a4, .int .i64 a5]] W (SavePost r W)) := by
 have hV : ∀ W A0 c0 A1 c1 A2 c2 A7 c7 B2 d2 B3 d3, TabW W → PIn names curs pool days W A0 c0 A1 c1 A2 c2 A7 c7 → SIn l2 l3 W B2 d2 B3 d3 → Calls Tryz.prog 9 #[.agg #[.slice A0 names.length c0, .slice A1 curs.length c1, .slice A2 pool.length c2, .int .i64 hor, .int .i64 cel, .int .i64 slo, .int .i64 sta, .slice A7 days.length c7], .agg #[.int .i64 a0, .int .i64 a1, .slice B2 l2.length d2, .slice B3 l3.length d3, .int .i64 a4, .int .i64 a5]] W (SvPost (validP names curs pool hor cel slo sta days a0 a1 l2 l3 a4 a5) W) := fun W A0 c0 A1 c1 A2 c2 A7 c7 B2 d2 B3 d3 G hp hs => sValid_calls A0 c0 names A1 c1 curs A2 c2 pool hor cel slo sta A7 c7 days a0 a1 B2 d2 l2 B3 d3 l3 a4 a5 W hp.1.2 hp.1.1 hp.2.1.2 hp.2.1.1 hp.2.2.1.2 hp.2.2.1.1 hp.2.2.2.2 hp.2.2.2.1 hs.1.2 hs.1.1 hs.2.2 hs.2.1 hpl hdl G
 have hR : ∀ W A0 c0 A1 c1 A2 c2 A7 c7 B2 d2 B3 d3, TabW W → PIn names curs pool days W A0 c0 A1 c1 A2 c2 A7 c7 → SIn l2 l3 W B2 d2 B3 d3 → Calls Tryz.prog 15 #[.agg #[.slice A0 names.length c0, .slice A1 curs.length c1, .slice A2 pool.length c2, .int .i64 hor, .int .i64 cel, .int .i64 slo, .int .i64 sta, .slice A7 days.length c7], .agg #[.int .i64 a0, .int .i64 a1, .slice B2 l2.length d2, .slice B3 l3.length d3, .int .i64 a4, .int .i64 a5]] W (SvPost (validP names curs pool hor cel slo sta days a0 a1 l2 l3 a4 a5) W) := fun W A0 c0 A1 c1 A2 c2 A7 c7 B2 d2 B3 d3 G hp hs => r16Valid_calls A0 c0 names A1 c1 curs A2 c2 pool hor cel slo sta A7 c7 days a0 a1 B2 d2 l2 B3 d3 l3 a4 a5 W hp.1.2 hp.1.1 hp.2.1.2 hp.2.1.1 hp.2.2.1.2 hp.2.2.2.2 hp.2.2.2.1 hs.1.2 hs.1.1 hs.2.2 hs.2.1 hdl hsz G
 have hC : ∀ W A0 c0 A1 c1 A2 c2 A7 c7, TabW W → PIn names curs pool days W A0 c0 A1 c1 A2 c2 A7 c7 → Calls Tryz.prog 38 #[.agg #[.slice A0 names.length c0, .slice A1 curs.length c1, .slice A2 pool.length c2, .int .i64 hor, .int .i64 cel, .int .i64 slo, .int .i64 sta, .slice A7 days.length c7]] W (CanonPost (canonP names curs pool hor cel slo sta days) W) := fun W A0 c0 A1 c1 A2 c2 A7 c7 G hp => canon_calls A0 c0 names A1 c1 curs A2 c2 pool hor cel slo sta A7 c7 days W hp.1.2 hp.1.1 hp.2.1.2 hp.2.1.1 hp.2.2.1.2 hp.2.2.1.1 hp.2.2.2.2 hp.2.2.2.1 hpl hdl G
 have hD : ∀ W A0 c0 A1 c1 A2 c2 A7 c7, TabW W → PIn names curs pool days W A0 c0 A1 c1 A2 c2 A7 c7 → Calls Tryz.prog 75 #[.agg #[.slice A0 names.length c0, .slice A1 curs.length c1, .slice A2 pool.length c2, .int .i64 hor, .int .i64 cel, .int .i64 slo, .int .i64 sta, .slice A7 days.length c7]] W (CanonPost (canonP names curs pool hor cel slo sta days) W) := fun W A0 c0 A1 c1 A2 c2 A7 c7 G hp => rCanon_calls A0 c0 names A1 c1 curs A2 c2 pool hor cel slo sta A7 c7 days W hp.1.2 hp.1.1 hp.2.1.2 hp.2.1.1 hp.2.2.1.2 hp.2.2.2.2 hp.2.2.2.1 hdl hsz G
 by_cases h0 : validP names curs pool hor cel slo sta days a0 a1 l2 l3 a4 a5 = 0
 ·have hcan : canonP names curs pool hor cel slo sta days = 0 := by
   unfold validP at h0
   split at h0
   ·contradiction
   ·rename_i hv
    unfold verifyP at hv
    by_cases hc : canonP names curs pool hor cel slo sta days = 0
    ·exact hc
    ·rw [if_pos hc] at hv
     exact absurd hc hv
  have hmay : mayB names.length hor cel (verifyP names curs pool hor cel slo sta days).2.back days a0 a1 l2 l3 a4 a5 = true := by
   unfold validP at h0
   split at h0
   ·contradiction
   ·split at h0
    ·assumption
    ·exact absurd h0 (by decide)
  obtain ⟨P, hP, e0, e1, e2, e3, e4, e5, e6, e7, hnn, hce, hho⟩ := canonP_prg hcan hip
  obtain ⟨s, hs, f0, f1, f2, f3, f4, f5⟩ := may_state hmay h1 hi2 hi3 (by omega) (by omega) hnn
  rw [h0] at hV hR
  rw [hcan] at hC hD
  clear hcan hmay h0 hpl hdl hsz hip h1 hi2 hi3 hnn hce hho
  subst e0 e1 e2 e3 e4 e5 e6 e7 f0 f1 f2 f3 f4 f5
  refine ⟨savedR P s, by unfold savedR; split <;> simp <;> omega, fun W A0 c0 A1 c1 A2 c2 A7 c7 B2 d2 B3 d3 G hp hs' => ?_, fun W A0 c0 A1 c1 A2 c2 A7 c7 B2 d2 B3 d3 G hp hs' => ?_⟩
  ·exact sEncode_ok P s hP hs A0 c0 A1 c1 A2 c2 A7 c7 B2 d2 B3 d3 W G ⟨hp.1.2, hp.2.1.2, hp.2.2.1.2, hp.2.2.2.2⟩ hs'.1.2 hs'.2.2 (fun W2 h => hV W2 A0 c0 A1 c1 A2 c2 A7 c7 B2 d2 B3 d3 (G.fr0 h) (hp.fr h) (hs'.fr h)) (fun W2 h => hC W2 A0 c0 A1 c1 A2 c2 A7 c7 (G.fr0 h) (hp.fr h))
  ·exact rSave_ok P s hP hs A0 c0 A1 c1 A2 c2 A7 c7 B2 d2 B3 d3 W G ⟨hp.1.2, hp.2.1.2, hp.2.2.1.2, hp.2.2.2.2⟩ hs'.1.2 hs'.2.2 (fun W2 h => hR W2 A0 c0 A1 c1 A2 c2 A7 c7 B2 d2 B3 d3 (G.fr0 h) (hp.fr h) (hs'.fr h)) (fun W2 h => hD W2 A0 c0 A1 c1 A2 c2 A7 c7 (G.fr0 h) (hp.fr h))
 ·refine ⟨([], validP names curs pool hor cel slo sta days a0 a1 l2 l3 a4 a5), by simp, fun W A0 c0 A1 c1 A2 c2 A7 c7 B2 d2 B3 d3 G hp hs' => ?_, fun W A0 c0 A1 c1 A2 c2 A7 c7 B2 d2 B3 d3 G hp hs' => ?_⟩
  ·exact sEncode_err _ h0 _ _ _ _ _ _ _ _ _ _ _ _ _ _ W (fun W2 h => hV W2 A0 c0 A1 c1 A2 c2 A7 c7 B2 d2 B3 d3 (G.fr0 h) (hp.fr h) (hs'.fr h))
  ·exact rSave_err _ h0 _ _ _ _ _ _ _ _ _ _ _ _ _ _ W (fun W2 h => hR W2 A0 c0 A1 c1 A2 c2 A7 c7 B2 d2 B3 d3 (G.fr0 h) (hp.fr h) (hs'.fr h))
theorem same_calls (a0 a1 : Int) (X2 : Option Addr) (x2 : Nat) (l2 : List Int) (X3 : Option Addr) (x3 : Nat) (l3 : List (List Cel)) (a4 a5 : Int) (Y2 : Option Addr) (y2 : Nat) (Y3 : Option Addr) (y3 : Nat) (w : World)
  (hx2 : Kd.C (Kd.int .i64) w X2 l2.length l2) (hx3 : Kd.C (Kd.slice 45 k45) w X3 l3.length l3) (hy2 : Kd.C (Kd.int .i64) w Y2 l2.length l2) (hy3 : Kd.C (Kd.slice 45 k45) w Y3 l3.length l3)
  (m2 : l2.length < 17592186044416) (m3 : l3.length < 5864062014805) (m4 : ∀ s ∈ l3, s.length < 8796093022208) :
  Calls Tryz.prog 8 #[.agg #[.int .i64 a0, .int .i64 a1, .slice X2 l2.length x2, .slice X3 l3.length x3, .int .i64 a4, .int .i64 a5], .agg #[.int .i64 a0, .int .i64 a1, .slice Y2 l2.length y2, .slice Y3 l3.length y3, .int .i64 a4, .int .i64 a5]] w fun e w' => e = .returned (.bool true) ∧ Fr w w' [] := by
 have HX2 := AsM hx2
 have HX3 := AsM hx3
 have HY2 := AsM hy2
 have HY3 := AsM hy3
 have M4 := AsM m4
 have hut := Tryz.underlying30
 have hcu := Tryz.underlying45
 clear hx2 hx3 hy2 hy3 m4
 go_enter Tryz.func8, Tryz.ntmps8
 go_wp2
 obtain ⟨V1, hV1⟩ : ∃ V1, (w.alloc (.cells #[.int .i64 a0, .int .i64 a1, .slice X2 l2.length x2, .slice X3 l3.length x3, .int .i64 a4, .int .i64 a5] 30)).alloc (.cells #[.int .i64 a0, .int .i64 a1, .slice Y2 l2.length y2, .slice Y3 l3.length y3, .int .i64 a4, .int .i64 a5] 30) = V1 := ⟨_, rfl⟩
 have HXX : Aside0 (V1.heap[w.heap.size]? = some (.cells #[.int .i64 a0, .int .i64 a1, .slice X2 l2.length x2, .slice X3 l3.length x3, .int .i64 a4, .int .i64 a5] 30 (0, 0))) := ⟨hV1 ▸ blk_alloc (blk_newN rfl) _⟩
 have HYY : Aside0 (V1.heap[w.heap.size + 1]? = some (.cells #[.int .i64 a0, .int .i64 a1, .slice Y2 l2.length y2, .slice Y3 l3.length y3, .int .i64 a4, .int .i64 a5] 30 (0, 0))) := ⟨hV1 ▸ blk_newN (by simp)⟩
 have HF1 : Aside0 (Fr w V1 []) := ⟨hV1 ▸ ((Fr.refl w []).alloc _).alloc _⟩
 obtain ⟨yb, hyb⟩ : ∃ yb, w.heap.size + 1 = yb := ⟨_, rfl⟩
 obtain ⟨xb, hxb⟩ : ∃ xb, w.heap.size = xb := ⟨_, rfl⟩
 rw [hV1, hyb]
 rw [hyb] at HYY
 rw [hxb] at HXX ⊢
 clear hV1 hyb hxb
 go_loopg [5] l2.length (fun kq s5 w3 => ∃ i : Nat, s5 = .int .i64 i ∧ i ≤ l2.length ∧ Aside0 (l2.length - i ≤ kq) ∧ Aside0 (Fr V1 w3 []))
 case atStart => exact ⟨0, rfl, by omega, ⟨Nat.le_refl _⟩, ⟨Fr.refl _ _⟩⟩
 case round =>
  obtain ⟨i, rfl, hi, HMi, HFi⟩ := hrel
  have bx2 := blk_cell (HFi.out.bl HXX.out) 2
  have by2 := blk_cell (HFi.out.bl HYY.out) 2
  have lx := blk_lt (HFi.out.bl HXX.out)
  have ly := blk_lt (HFi.out.bl HYY.out)
  by_cases hil : i < l2.length
  ·have n3 : decide (i < l2.length) = true := by simpa using hil
   have p0 : (0 : Int) ≤ (i : Int) := by omega
   have p1 : (i : Int) < l2.length := by omega
   obtain ⟨ad, rfl, g9⟩ := pl_at HX2.out i hil
   obtain ⟨ae, rfl, g8⟩ := pl_at HY2.out i hil
   obtain ⟨x, hx⟩ : ∃ x, l2.getD i 0 = x := ⟨_, rfl⟩
   rw [hx] at g9 g8
   have q0 := frc g9 (HF1.out.tr HFi.out) (by simp)
   have q1 := frc g8 (HF1.out.tr HFi.out) (by simp)
   clear hx g9 g8
   go_wp2
   go_region_held3 (fun w' => w'.cell? ⟨xb, 2, none⟩ = some (.slice (some ad) l2.length x2) ∧ w'.cell? ⟨yb, 2, none⟩ = some (.slice (some ae) l2.length y2) ∧ w'.cell? (ad.add i) = some (.int .i64 x) ∧ w'.cell? (ae.add i) = some (.int .i64 x)) (first | (refine ⟨frc (L := []) bx2 ?_ List.not_mem_nil, frc (L := []) by2 ?_ List.not_mem_nil, frc (L := []) q0 ?_ List.not_mem_nil, frc (L := []) q1 ?_ List.not_mem_nil⟩ <;> exact FQ) | go_keep) (fail)
   clear bx2 by2 lx ly q0 q1
   go_wp2
   go_roundg (l2.length - (i + 1))
   case measure => have := HMi.out; omega
   case rel => exact ⟨i + 1, by go_num, by omega, ⟨Nat.le_refl _⟩, ⟨HFi.out.trans (c := _) (M := []) FQ (by simp)⟩⟩
  ·obtain rfl : i = l2.length := by omega
   have n3 : decide (l2.length < l2.length) = false := by simp
   obtain ⟨V2, hV2⟩ : ∃ V2 : World, V2 = wr := ⟨_, rfl⟩
   subst hV2
   have HF2 := AsM (HF1.out.tr HFi.out)
   have HXX2 := AsM (HFi.out.bl HXX.out)
   have HYY2 := AsM (HFi.out.bl HYY.out)
   clear HXX HYY HF1 HFi
   go_wp2
   clear bx2 by2 lx ly n3
   go_loopg [6] l3.length (fun kq s6 w3 => ∃ i : Nat, s6 = .int .i64 i ∧ i ≤ l3.length ∧ Aside0 (l3.length - i ≤ kq) ∧ Aside0 (Fr V2 w3 []))
   case atStart => exact ⟨0, rfl, by omega, ⟨Nat.le_refl _⟩, ⟨Fr.refl _ _⟩⟩
   case round =>
    obtain ⟨i, rfl, hi, HMi, HFi⟩ := hrel
    have bx3 := blk_cell (HFi.out.bl HXX2.out) 3
    have by3 := blk_cell (HFi.out.bl HYY2.out) 3
    have lx := blk_lt (HFi.out.bl HXX2.out)
    have ly := blk_lt (HFi.out.bl HYY2.out)
    by_cases hil : i < l3.length
    ·have n3 : decide (i < l3.length) = true := by simpa using hil
     have p0 : (0 : Int) ≤ (i : Int) := by omega
     have p1 : (i : Int) < l3.length := by omega
     obtain ⟨ad, R, cR, rfl, g9, hR⟩ := rw_at HX3.out i hil
     obtain ⟨ae, S, cS, rfl, g8, hS⟩ := rw_at HY3.out i hil
     obtain ⟨r, hx⟩ : ∃ x, l3.getD i [] = x := ⟨_, rfl⟩
     have hxm : r ∈ l3 := by rw [← hx, List.getD_eq_getElem?_getD, List.getElem?_eq_getElem hil]; exact List.getElem_mem _
     have mr := M4.out r hxm
     rw [hx] at g9 g8 hR hS
     have q0 := frc g9 (HF2.out.tr HFi.out) (by simp)
     have q1 := frc g8 (HF2.out.tr HFi.out) (by simp)
     have HR := AsM hR
     have HS := AsM hS
     have G9 := AsM g9
     have G8 := AsM g8
     clear hx g9 g8 hR hS hxm
     go_wp2
     go_region_held3 (fun w' => w'.cell? ⟨xb, 3, none⟩ = some (.slice (some ad) l3.length x3) ∧ w'.cell? ⟨yb, 3, none⟩ = some (.slice (some ae) l3.length y3) ∧ w'.cell? (ad.add i) = some (.slice R r.length cR) ∧ w'.cell? (ae.add i) = some (.slice S r.length cS)) (first | (refine ⟨frc (L := []) bx3 ?_ List.not_mem_nil, frc (L := []) by3 ?_ List.not_mem_nil, frc (L := []) q0 ?_ List.not_mem_nil, frc (L := []) q1 ?_ List.not_mem_nil⟩ <;> exact FQ) | go_keep) (fail)
     clear bx3 by3 lx ly q0 q1
     obtain ⟨wo, hwo⟩ : ∃ wo : World, wo = wr := ⟨_, rfl⟩
     subst hwo
     go_wp2
     go_loopg [7] r.length (fun kq s7 w3 => ∃ j : Nat, s7 = .int .i64 j ∧ j ≤ r.length ∧ Aside0 (r.length - j ≤ kq) ∧ Aside0 (Fr V2 w3 []))
     case atStart => exact ⟨0, rfl, by omega, ⟨Nat.le_refl _⟩, ⟨HFi.out.trans (c := _) (M := []) FQ (by simp)⟩⟩
     case round =>
      obtain ⟨j, rfl, hj, HMj, HFj⟩ := hrel
      have bx3 := blk_cell (HFj.out.bl HXX2.out) 3
      have lx := blk_lt (HFj.out.bl HXX2.out)
      have q0 := frc G9.out (HF2.out.tr HFj.out) (by simp)
      by_cases hjl : j < r.length
      ·have n4 : decide (j < r.length) = true := by simpa using hjl
       have p2 : (0 : Int) ≤ (j : Int) := by omega
       have p3 : (j : Int) < r.length := by omega
       obtain ⟨ac, rfl, e0, e1⟩ := cl_at HR.out j hjl
       obtain ⟨af, rfl, f0, f1⟩ := cl_at HS.out j hjl
       obtain ⟨x, hx⟩ : ∃ x, r.getD j z45 = x := ⟨_, rfl⟩
       rw [hx] at e0 e1 f0 f1
       obtain ⟨xh, xv⟩ := x
       simp only at e0 e1 f0 f1
       have k0 := frc e0 (HF2.out.tr HFj.out) (by simp)
       have k1 := frc e1 (HF2.out.tr HFj.out) (by simp)
       have FA : Aside0 (Fr w (wr.alloc (.cells #[.bool xh, .int .i64 xv] 45)) []) := ⟨(HF2.out.tr HFj.out).alloc _⟩
       have FB : Aside0 (Fr V2 (wr.alloc (.cells #[.bool xh, .int .i64 xv] 45)) []) := ⟨HFj.out.alloc _⟩
       have j0 := frd f0 FA.out
       have j1 := frd f1 FA.out
       have by3 := blk_cell (FB.out.bl HYY2.out) 3
       have q1 := frd G8.out FA.out
       have ly := blk_lt (FB.out.bl HYY2.out)
       clear hx e0 e1 f0 f1
       cases xh
       ·go_wp2
        go_roundg (r.length - (j + 1))
        case measure => have := HMj.out; omega
        case rel => exact ⟨j + 1, by go_num, by omega, ⟨Nat.le_refl _⟩, ⟨HFj.out.trans (c := _) (M := []) FQ (by simp)⟩⟩
       ·go_wp2
        go_roundg (r.length - (j + 1))
        case measure => have := HMj.out; omega
        case rel => exact ⟨j + 1, by go_num, by omega, ⟨Nat.le_refl _⟩, ⟨HFj.out.trans (c := _) (M := []) FQ (by simp)⟩⟩
      ·obtain rfl : j = r.length := by omega
       have n4 : decide (r.length < r.length) = false := by simp
       go_wp2
       go_roundg (l3.length - (i + 1))
       case measure => have := HMi.out; omega
       case rel => exact ⟨i + 1, by go_num, by omega, ⟨Nat.le_refl _⟩, HFj⟩
    ·obtain rfl : i = l3.length := by omega
     have n3 : decide (l3.length < l3.length) = false := by simp
     go_wp2
     go_ret
     exact ⟨rfl, HF2.out.tr HFi.out⟩
theorem grown_trans {a b c : World} {row : Option Nat} (h : a.grownBy b row) (k : b.grownBy c row) : a.grownBy c row :=
 ⟨k.os.trans h.os, k.tape.trans h.tape, k.output.trans h.output, Nat.le_trans h.size k.size, fun i hi hn => (k.block i (Nat.lt_of_lt_of_le hi h.size) hn).trans (h.block i hi hn)⟩
theorem grown_refl (a : World) (row : Option Nat) : a.grownBy a row := ⟨rfl, rfl, rfl, Nat.le_refl _, fun _ _ _ => rfl⟩
theorem grown_fr {a b : World} (h : Fr a b []) (row : Option Nat) : a.grownBy b row := ⟨h.os, h.tape, h.output, h.size, fun k hk _ => h.block k hk (by simp)⟩
theorem fr_grown2 {a w w' : World} {v : Value} (hF : Fr a w []) (hg : w.grownBy w' v.ownBlock) (hb : ∀ k, v.ownBlock = some k → a.heap.size ≤ k) : Fr a w' [] :=
 ⟨hg.os.trans hF.os, hg.tape.trans hF.tape, hg.output.trans hF.output, Nat.le_trans hF.size hg.size, fun k hk _ => (hg.block k (Nat.lt_of_lt_of_le hk hF.size) (fun e => absurd (hb k e.symm) (by omega))).trans (hF.block k hk (by simp))⟩
theorem Buf.set {w : World} {base g n cap : Nat} {l : List Int} (h : Buf True w base (.slice (some ⟨g, 0, none⟩) n cap) l) (i : Nat) (hi : i < n) (x : Int) :
  (∃ y, w.cell? ⟨g, i, none⟩ = some (.int .u8 y)) ∧ w.frozen? ⟨g, i, none⟩ = false ∧ Buf True (w.setCell ⟨g, i, none⟩ (.int .u8 x)) base (.slice (some ⟨g, 0, none⟩) n cap) (l.set i x) ∧ w.grownBy (w.setCell ⟨g, i, none⟩ (.int .u8 x)) (some g) := by
 rcases h with ⟨h, _⟩ | ⟨g', cap', cur, fr, hv, hb, hg, hl, hm, hs, ht, hf⟩
 ·cases h
 injection hv with h1 h2 h3
 injection h1 with h1
 injection h1 with h1
 subst h1 h3 h2
 have hic : i < cur.size := by omega
 have hcell : w.cell? ⟨g, i, none⟩ = some cur[i] := by simp [World.cell?, hg, hic]
 have hli := congrArg (fun r : List Value => r[i]?) ht
 simp only [List.getElem?_map, List.getElem?_take, hi, if_true, List.getElem?_eq_getElem hi, Option.map_some] at hli
 have hli' : cur[i] = .int .u8 l[i] := by
  have : cur.toList[i]? = some cur[i] := by simp [hic]
  rw [this] at hli
  exact Option.some.inj hli
 refine ⟨⟨l[i], by rw [hcell, hli']⟩, ?_, ?_, ?_⟩
 ·obtain ⟨lo, hi'⟩ := fr
  simp only [World.frozen?, hg, Bool.and_eq_false_iff, decide_eq_false_iff_not]
  rcases hf with h | h
  ·injection h with h h'
   right; omega
  ·left; have := h.2; simp only at this; omega
 ·rw [setCell_eq_setRow w g i cur 5 fr _ hg]
  refine .inr ⟨g, cap, _, fr, by rw [List.length_set], hb, setRow_heap w g cur _ _ _ hg, by rw [List.length_set]; exact hl, hm, by simpa using hs, ?_, by simpa using hf⟩
  rw [List.length_set, Array.toList_setIfInBounds, List.take_set, ht, List.map_set]
 ·rw [setCell_eq_setRow w g i cur 5 fr _ hg]
  exact buf_fr_room
theorem run_buf_keep {w : World} {base : Nat} (ty : TypeId) {v : Value} {l xs : List Int} (h : Buf True w base v l) {ad : Addr} {c : Nat} (hx : Kd.C (Kd.int .u8) w (some ad) xs.length xs) (hl : l.length + xs.length ≤ 140737488355328) (hbase : base ≤ w.heap.size) :
  ∃ v' w', (Builtin.append_ #[32, 32] ty #[v, .slice (some ad) xs.length c]).run Tryz.prog w = .ok v' w' ∧ Buf True w' base v l ∧ w.grownBy w' v.ownBlock := by
 obtain ⟨i0, hi0, hz0, hz1, hz2⟩ := info_parts info5
 have hu := Tryz.underlying32
 have hn := news_c hx
 have hmx : l.length + xs.length ≤ maxLen := by unfold maxLen; omega
 rcases h with ⟨rfl, rfl⟩ | ⟨g, cap, cur, fr, rfl, hb, hg, hlc, hm, hs, ht, hf⟩
 ·obtain ⟨v', w', hr, ho, hgr, _, hat⟩ := run_append_own_at (P := Tryz.prog) w base 32 ty 5 i0 (.int .u8 0) 1 1 hu hi0 hz0 hz1 hz2 rfl (by decide) (.slice none 0 0) 0 [] (World.ownsRow_nil w base _ 1) ad xs.length c (xs.map (Value.int .u8)) (by simp) hn (u8_one _) (by simpa using hmx) (by simpa using hl) hbase
  exact ⟨v', w', hr, Buf.nil _ _ _, hgr⟩
 ·by_cases hroom : l.length + xs.length ≤ cap
  ·have hf1 := run_firstCells_some (P := Tryz.prog) w 1 xs.length ad xs.length c (xs.map (Value.int .u8)) (by simp) hn
   have hst := store_at Tryz.prog g l.length 5 fr (xs.map (Value.int .u8)) 0 cur w hg (hf.imp id (fun h => h.2)) (by simp; omega) (u8_one _)
   simp only [Nat.add_zero, List.length_map] at hst
   refine ⟨.slice (some ⟨g, 0, none⟩) (l.length + xs.length) cap, w.setRow g (cur.toList.take l.length ++ xs.map (Value.int .u8) ++ cur.toList.drop (l.length + xs.length)).toArray, ?_, ?_, buf_fr_room⟩
   ·simp [Builtin.append_, run_underlying hu, sizeOf, typeInfo, hi0, hz1, Builtin.lenOf, hroom, hf1, Addr.add_lit, hst]
   ·have hz : (cur.toList.take l.length ++ xs.map (Value.int .u8) ++ cur.toList.drop (l.length + xs.length)).toArray.size = cap := by
     simp only [List.size_toArray, List.length_append, List.length_take, List.length_drop, Array.length_toList, List.length_map]
     omega
    refine .inr ⟨g, cap, _, fr, rfl, hb, setRow_heap w g cur _ _ _ hg, hlc, hm, hz, ?_, ?_⟩
    ·rw [ht, List.append_assoc]
     exact (congrArg (fun n => List.take n _) (by simp)).trans List.take_left
    ·rw [hz, ← hs]; exact hf
  ·have hB : Buf True w base (.slice (some ⟨g, 0, none⟩) l.length cap) l := .inr ⟨g, cap, cur, fr, rfl, hb, hg, hlc, hm, hs, ht, hf⟩
   obtain ⟨A', c', e', _, hC⟩ := hB.reads
   injection e' with e1 _ e3
   subst e1
   obtain ⟨v', w', hr, ho, hgr⟩ := run_append_arg_grows (P := Tryz.prog) w 32 ty 5 i0 (.int .u8 0) 1 1 hu hi0 hz0 hz1 hz2 rfl (by decide) ⟨g, 0, none⟩ l.length cap (l.map (Value.int .u8)) (by simp) (news_c hC) ad xs.length c (xs.map (Value.int .u8)) (by simp) hn (by omega) hmx (by omega)
   exact ⟨v', w', hr, hB.move (fun k _ hk _ => hgr.5 k hk (by simp)), ⟨hgr.1, hgr.2, hgr.3, hgr.4, fun k hk _ => hgr.5 k hk (by simp)⟩⟩
theorem wp_buf_keep {b0 : Nat} {w : World} {ops : Array Oper} {rest : List Oper} {o : Oper} {a : Act} {Q : Exit → Act → World → Prop} (hgd : o.guard = none) (s x : Operand)
  (ho : o.op = .call { callee := .builtin .append, args := #[s, x], argTypes := #[32, 32] }) {v : Value} {l xs : List Int} {ad : Addr} {m c : Nat}
  (hs : a.eval s = v) (hx : a.eval x = .slice (some ad) m c) (hm : m = xs.length)
  (h : Buf True w b0 v l) (hF : b0 ≤ w.heap.size) (hC : Kd.C (Kd.int .u8) w (some ad) xs.length xs) (hl : l.length + xs.length ≤ 140737488355328)
  (hk : ∀ v' w', Buf True w' b0 v l → w.grownBy w' v.ownBlock → wpList Tryz.prog ops Q rest (a.put o.dst v') w') : wpList Tryz.prog ops Q (o :: rest) a w := by
 subst hm
 refine wpList_plain hgd fun K hK => ?_
 obtain ⟨v', w', hr, hB, hg⟩ := run_buf_keep o.type h hC hl hF
 unfold Oper.wp execOp
 simp only [ho, resolve, invoke, builtin, Sem.run_bind, Sem.run_pure, Result.andThen_ok, List.map_toArray, List.map_cons, List.map_nil, hs, hx, hr]
 rw [hr, Result.andThen_ok]
 exact hK _ _ (hk v' w' hB hg)
end Go.Proofs.YtpoehkacfmljcaaGreatDoor.H
