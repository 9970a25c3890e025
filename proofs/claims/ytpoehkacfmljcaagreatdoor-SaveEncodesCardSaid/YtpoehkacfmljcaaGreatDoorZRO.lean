/- The reference's lesser, segment and Is. -/
import Derived.Test.YtpoehkacfmljcaaGreatDoorZV
import Derived.Test.YtpoehkacfmljcaaGreatDoorZKB
import Derived.Test.YtpoehkacfmljcaaGreatDoorZRN
set_option maxHeartbeats 4000000
set_option maxRecDepth 100000
namespace Go.Proofs.YtpoehkacfmljcaaGreatDoor.H
open Go.RowKit Go.Proofs.YtpoehkacfmljcaaGreatDoorW.PrintWords Go.Proofs.YtpoehkacfmljcaaGreatDoorW.PrintLast Go.Proofs.YtpoehkacfmljcaaGreatDoorW.PrintMore
open Go.ChangeMaps (setBlock)
attribute [local go_sem] max2_int min2_int max_two min_two max_three min_three max_four min_four
set_option linter.unusedVariables false
set_option linter.unusedSimpArgs false
open Go.Proofs.YtpoehkacfmljcaaGreatDoor.M
theorem lesser_calls (a b : Int) (w : World) : Calls Tryz.prog 73 #[.int .i64 a, .int .i64 b] w fun e w' => e = .returned (.int .i64 (if a < b then a else b)) ∧ Drawn0 w w' := by
 by_cases h : a < b
 ·have n1 : decide (a < b) = true := by simpa using h
  rw [if_pos h]
  go_enter Tryz.func73, Tryz.ntmps73
  go_wp2
  go_ret
  exact ⟨rfl, DQ⟩
 ·have n1 : decide (a < b) = false := by simpa using h
  rw [if_neg h]
  go_enter Tryz.func73, Tryz.ntmps73
  go_wp2
  go_ret
  exact ⟨rfl, DQ⟩
def SegPost (b : Bool) (w : World) (e : Ending) (w' : World) : Prop := ∃ v : Int, e = .returned (.int .i64 v) ∧ decide (0 ≤ v) = b ∧ Fr w w' []
theorem segment_calls (A0 : Option Addr) (n0 c0 : Nat) (A1 : Option Addr) (n1 c1 : Nat) (A2 : Option Addr) (n2 c2 : Nat) (hor cel slo sta : Int) (A7 : Option Addr) (c7 : Nat) (days : List S54) (q : Int) (w : World) (hr7 : Kd.C k54 w A7 days.length days) :
  Calls Tryz.prog 74 #[.agg #[.slice A0 n0 c0, .slice A1 n1 c1, .slice A2 n2 c2, .int .i64 hor, .int .i64 cel, .int .i64 slo, .int .i64 sta, .slice A7 days.length c7], .int .i64 q] w (SegPost (segB days q) w) := by
 have HC := AsM hr7
 have hd63 := Kd.C_max hr7
 clear hr7
 have hup := Tryz.underlying26
 have hut := Tryz.underlying54
 go_enter Tryz.func74, Tryz.ntmps74
 go_upto_region 1 with fail
 refine name_ (fun V => Aside0 (Fr w V []) ∧ Aside0 (V.heap[w.heap.size]? = some (.cells #[.slice A0 n0 c0, .slice A1 n1 c1, .slice A2 n2 c2, .int .i64 hor, .int .i64 cel, .int .i64 slo, .int .i64 sta, .slice A7 days.length c7] 26 (0, 0)))) ⟨⟨FQ⟩, ⟨blk_newN rfl⟩⟩ ?_
 rintro V ⟨HVF, HVX⟩
 go_wp2
 go_loopg [5] days.length (fun kq x wr => ∃ (k : Nat), x = .int .i64 k ∧ k ≤ days.length ∧ Aside0 (days.length - k ≤ kq) ∧ Aside0 (Fr w wr []) ∧ Aside0 (wr.heap[w.heap.size]? = some (.cells #[.slice A0 n0 c0, .slice A1 n1 c1, .slice A2 n2 c2, .int .i64 hor, .int .i64 cel, .int .i64 slo, .int .i64 sta, .slice A7 days.length c7] 26 (0, 0))) ∧ Aside0 (segB (days.take k) q = false))
 case atStart => exact ⟨0, rfl, Nat.zero_le _, ⟨Nat.le_refl _⟩, HVF, HVX, ⟨rfl⟩⟩
 case round =>
  clear HVF HVX
  obtain ⟨k, rfl, hk, HM, HF, HX, HS⟩ := hrel
  have x7 : wr.cell? ⟨w.heap.size, 7, none⟩ = some (.slice A7 days.length c7) := blk_cell HX.out 7
  have hxl := blk_lt HX.out
  by_cases hkl : k < days.length
  ·have n3 : decide (k < days.length) = true := by simpa using hkl
   obtain ⟨ad, A8, c8, rfl, h0, _, _, _⟩ := day_at HC.out k hkl
   obtain ⟨x, hx⟩ : ∃ x, days.getD k z54 = x := ⟨_, rfl⟩
   rw [hx] at h0
   have hxm : days[k]? = some x := by rw [List.getD_eq_getElem?_getD, List.getElem?_eq_getElem hkl] at hx; rw [List.getElem?_eq_getElem hkl]; simpa using hx
   have HXM := AsM hxm
   have g0 := fr_at h0 HF.out (by simp)
   clear h0 hx hxm
   by_cases he : x.f0 = q
   ·have n4 : (x.f0 == q) = true := by simpa using he
    have HE : Aside0 (segB days q = true) := ⟨List.any_eq_true.2 ⟨x, List.mem_of_getElem? HXM.out, by simpa using he⟩⟩
    clear he
    go_wp2
    go_ret
    exact ⟨_, rfl, by rw [HE.out]; exact decide_eq_true (Int.natCast_nonneg _), FX HF.out⟩
   ·have n4 : (x.f0 == q) = false := by simpa using he
    have HE : Aside0 (segB (days.take (k + 1)) q = false) := ⟨by
     have := HS.out
     unfold segB at this ⊢
     rw [List.take_add_one, HXM.out, List.any_append, this]
     simp [he]⟩
    clear he
    go_wp2
    go_roundg (days.length - (k + 1))
    case measure => have := HM.out; omega
    case rel => exact ⟨k + 1, by go_num, by omega, ⟨Nat.le_refl _⟩, ⟨FX HF.out⟩, ⟨by first | exact HX.out | exact blk_drewN HX.out _⟩, HE⟩
  ·obtain rfl : k = days.length := by omega
   have n3 : decide (days.length < days.length) = false := by simp
   have hs := HS.out
   rw [List.take_length] at hs
   have HE := AsM hs
   clear hs HS
   go_wp2
   go_ret
   exact ⟨_, rfl, by rw [HE.out]; decide, FX HF.out⟩
theorem is_calls (A0 : Option Addr) (n0 c0 : Nat) (A1 : Option Addr) (n1 c1 : Nat) (A2 : Option Addr) (n2 c2 : Nat) (hor cel slo sta : Int) (A7 : Option Addr) (c7 : Nat) (days : List S54) (pst pfu pba : Int) (a0 a1 : Int) (B2 : Option Addr) (d2 : Nat) (l2 : List Int) (B3 : Option Addr) (d3 : Nat) (l3 : List (List S45)) (a4 a5 : Int) (w : World) (hh : 0 ≤ hor ∧ hor ≤ 100000) (hdn : days.length ≤ 1000000) (hdl : ∀ s ∈ days, s.f1.length ≤ 1000000)
  (hr7 : Kd.C k54 w A7 days.length days) (hr2 : Kd.C (Kd.int .i64) w B2 l2.length l2) (hr3 : Kd.C (Kd.slice 45 k45) w B3 l3.length l3) :
  Calls Tryz.prog 41 #[.agg #[.slice A0 n0 c0, .slice A1 n1 c1, .slice A2 n2 c2, .int .i64 hor, .int .i64 cel, .int .i64 slo, .int .i64 sta, .slice A7 days.length c7], .agg #[.int .i64 pst, .int .i64 pfu, .int .i64 pba], .agg #[.int .i64 a0, .int .i64 a1, .slice B2 l2.length d2, .slice B3 l3.length d3, .int .i64 a4, .int .i64 a5]] w (MayPost (mayB n0 hor cel pba days a0 a1 l2 l3 a4 a5) w) := by
 obtain ⟨R, hR⟩ : ∃ x, mayB n0 hor cel pba days a0 a1 l2 l3 a4 a5 = x := ⟨_, rfl⟩
 rw [hR]
 have HR := AsM hR
 have H7 := AsM hr7
 have H2 := AsM hr2
 have H3 := AsM hr3
 have HDL := AsM hdl
 have hl2 := Kd.C_max hr2
 have hl3 := Kd.C_max hr3
 obtain ⟨hh0, hh1⟩ := hh
 clear hR hr7 hr2 hr3 hdl
 have hup := Tryz.underlying26
 have huq := Tryz.underlying76
 have hus := Tryz.underlying30
 have hut := Tryz.underlying54
 have huc := Tryz.underlying45
 have hw : IntKind.i64.wrap (hor + 1) = hor + 1 := by rw [i64_w]; unfold wrap64; omega
 obtain ⟨mn, hmn⟩ : ∃ mn, (if a0 < pba then a0 else pba) = mn := ⟨_, rfl⟩
 have HLE : Aside0 (∀ W : World, Calls Tryz.prog 73 #[.int .i64 a0, .int .i64 pba] W fun e w' => e = .returned (.int .i64 mn) ∧ Drawn0 W w') := ⟨fun W => hmn ▸ lesser_calls a0 pba W⟩
 have hmn2 : (if pba < a0 then pba else a0) = mn := by rw [← hmn]; split <;> split <;> omega
 have HMN := AsM hmn2
 clear hmn hmn2
 go_enter Tryz.func41, Tryz.ntmps41
 go_upto_region 1 with fail
 refine name_ (fun V => Aside0 (Fr w V []) ∧ Aside0 (V.heap[w.heap.size]? = some (.cells #[.slice A0 n0 c0, .slice A1 n1 c1, .slice A2 n2 c2, .int .i64 hor, .int .i64 cel, .int .i64 slo, .int .i64 sta, .slice A7 days.length c7] 26 (0, 0))) ∧ Aside0 (V.heap[w.heap.size + 1]? = some (.cells #[.int .i64 pst, .int .i64 pfu, .int .i64 pba] 76 (0, 0))) ∧ Aside0 (V.heap[w.heap.size + 1 + 1]? = some (.cells #[.int .i64 a0, .int .i64 a1, .slice B2 l2.length d2, .slice B3 l3.length d3, .int .i64 a4, .int .i64 a5] 30 (0, 0)))) ⟨⟨FQ⟩, ⟨blk_alloc (blk_alloc (blk_newN rfl) _) _⟩, ⟨blk_alloc (blk_newN (by simp)) _⟩, ⟨blk_newN (by simp)⟩⟩ ?_
 rintro V ⟨HVF, HVX, HVY, HVZ⟩
 have x3 := blk_cell HVX.out 3
 have x4 := blk_cell HVX.out 4
 have y2 := blk_cell HVY.out 2
 obtain ⟨z0, z1, z2, z3⟩ := cc4 HVZ.out
 by_cases hc : a0 < 0 ∨ hor + 1 < a0 ∨ a1 < 0 ∨ (l2.length : Int) ≠ cel ∨ (l3.length : Int) ≠ mn
 case pos =>
  obtain rfl : false = R := by rw [← HR.out]; unfold mayB; rw [HMN.out, if_pos hc]
  clear HR
  have hcase : decide (a0 < 0) = true ∨ (decide (a0 < 0) = false ∧ decide (hor + 1 < a0) = true) ∨ (decide (a0 < 0) = false ∧ decide (hor + 1 < a0) = false ∧ decide (a1 < 0) = true) ∨ (decide (a0 < 0) = false ∧ decide (hor + 1 < a0) = false ∧ decide (a1 < 0) = false ∧ ((l2.length : Int) != cel) = true) ∨ (decide (a0 < 0) = false ∧ decide (hor + 1 < a0) = false ∧ decide (a1 < 0) = false ∧ ((l2.length : Int) != cel) = false ∧ ((l3.length : Int) != mn) = true) := by
   simp only [decide_eq_true_eq, decide_eq_false_iff_not, bne_iff_ne, ne_eq, bne_eq_false_iff_eq]
   omega
  clear hc
  rcases hcase with h1 | ⟨h1, h2⟩ | ⟨h1, h2, h3⟩ | ⟨h1, h2, h3, h4⟩ | ⟨h1, h2, h3, h4, h5⟩
  ·go_quiet (fail)
   all_goals (go_wp2; go_ret; exact ⟨rfl, FX HVF.out⟩)
  ·go_quiet (fail)
   all_goals (go_wp2; go_ret; exact ⟨rfl, FX HVF.out⟩)
  ·go_quiet (fail)
   all_goals (go_wp2; go_ret; exact ⟨rfl, FX HVF.out⟩)
  ·go_quiet (fail)
   all_goals (go_wp2; go_ret; exact ⟨rfl, FX HVF.out⟩)
  ·go_region_held3 (fun w' => w'.cell? ⟨w.heap.size, 3, none⟩ = some (.int .i64 hor) ∧ w'.cell? ⟨w.heap.size, 4, none⟩ = some (.int .i64 cel) ∧ w'.cell? ⟨w.heap.size + 1, 2, none⟩ = some (.int .i64 pba) ∧ w'.cell? ⟨w.heap.size + 1 + 1, 0, none⟩ = some (.int .i64 a0) ∧ w'.cell? ⟨w.heap.size + 1 + 1, 1, none⟩ = some (.int .i64 a1) ∧ w'.cell? ⟨w.heap.size + 1 + 1, 2, none⟩ = some (.slice B2 l2.length d2) ∧ w'.cell? ⟨w.heap.size + 1 + 1, 3, none⟩ = some (.slice B3 l3.length d3)) (first | exact ⟨x3, x4, y2, z0, z1, z2, z3⟩ | go_keep) (first | (go_simp; go_at_call 73; (refine (HLE.out _).mono ?_); rintro e w' ⟨rfl, ⟨nd, rfl⟩⟩))
   go_wp2
   go_ret
   exact ⟨rfl, FX HVF.out⟩
 case neg =>
 have hr1 := HR.out
 unfold mayB at hr1
 rw [HMN.out, if_neg hc] at hr1
 have HC := AsM hc
 have HR1 := AsM hr1
 have hcase : (decide (a0 < 0) = false ∧ decide (hor + 1 < a0) = false ∧ decide (a1 < 0) = false ∧ ((l2.length : Int) != cel) = false ∧ ((l3.length : Int) != mn) = false) := by
  simp only [decide_eq_false_iff_not, bne_iff_ne, ne_eq, bne_eq_false_iff_eq]
  omega
 obtain ⟨h1, h2, h3, h4, h5⟩ := hcase
 clear hr1 HR hc
 go_region_held3 (fun w' => w'.cell? ⟨w.heap.size, 3, none⟩ = some (.int .i64 hor) ∧ w'.cell? ⟨w.heap.size, 4, none⟩ = some (.int .i64 cel) ∧ w'.cell? ⟨w.heap.size + 1, 2, none⟩ = some (.int .i64 pba) ∧ w'.cell? ⟨w.heap.size + 1 + 1, 0, none⟩ = some (.int .i64 a0) ∧ w'.cell? ⟨w.heap.size + 1 + 1, 1, none⟩ = some (.int .i64 a1) ∧ w'.cell? ⟨w.heap.size + 1 + 1, 2, none⟩ = some (.slice B2 l2.length d2) ∧ w'.cell? ⟨w.heap.size + 1 + 1, 3, none⟩ = some (.slice B3 l3.length d3)) (first | exact ⟨x3, x4, y2, z0, z1, z2, z3⟩ | go_keep) (first | (go_simp; go_at_call 73; (refine (HLE.out _).mono ?_); rintro e w' ⟨rfl, ⟨nd, rfl⟩⟩))
 go_upto_region 4 with fail
 clear h1 h2 h3 h4 h5
 refine name_ (fun V => Aside0 (Fr w V []) ∧ Aside0 (V.heap[w.heap.size]? = some (.cells #[.slice A0 n0 c0, .slice A1 n1 c1, .slice A2 n2 c2, .int .i64 hor, .int .i64 cel, .int .i64 slo, .int .i64 sta, .slice A7 days.length c7] 26 (0, 0))) ∧ Aside0 (V.heap[w.heap.size + 1 + 1]? = some (.cells #[.int .i64 a0, .int .i64 a1, .slice B2 l2.length d2, .slice B3 l3.length d3, .int .i64 a4, .int .i64 a5] 30 (0, 0)))) ⟨⟨FX HVF.out⟩, ⟨by (with_reducible (repeat (first | apply blk_drew | apply blk_alloc | apply blk_set))); first | exact HVX.out | exact blk_drewN HVX.out _⟩, ⟨by (with_reducible (repeat (first | apply blk_drew | apply blk_alloc | apply blk_set))); first | exact HVZ.out | exact blk_drewN HVZ.out _⟩⟩ ?_
 clear HVF HVX HVY HVZ x3 x4 y2 z0 z1 z2 z3 HLE HMN
 rintro V ⟨HVF, HVX, HVZ⟩
 go_wp2
 go_loopg [7, 8] days.length (fun kq s7 s8 wr => ∃ (k sm : Nat), s7 = .int .i64 sm ∧ Aside0 (sm = sumB a0 (days.take k)) ∧ sm ≤ 1000000000000 ∧ s8 = .int .i64 k ∧ k ≤ days.length ∧ Aside0 (days.length - k ≤ kq) ∧ Aside0 (Fr w wr []) ∧ Aside0 (wr.heap[w.heap.size]? = some (.cells #[.slice A0 n0 c0, .slice A1 n1 c1, .slice A2 n2 c2, .int .i64 hor, .int .i64 cel, .int .i64 slo, .int .i64 sta, .slice A7 days.length c7] 26 (0, 0))) ∧ Aside0 (wr.heap[w.heap.size + 1 + 1]? = some (.cells #[.int .i64 a0, .int .i64 a1, .slice B2 l2.length d2, .slice B3 l3.length d3, .int .i64 a4, .int .i64 a5] 30 (0, 0))))
 case atStart => exact ⟨0, 0, rfl, ⟨rfl⟩, by omega, rfl, Nat.zero_le _, ⟨Nat.le_refl _⟩, HVF, HVX, HVZ⟩
 case round =>
  clear HVF HVX HVZ
  obtain ⟨k, sm, rfl, HSM, hsm, rfl, hk, HM, HF, HX, HZ⟩ := hrel
  have x7 : wr.cell? ⟨w.heap.size, 7, none⟩ = some (.slice A7 days.length c7) := blk_cell HX.out 7
  have z0 := blk_cell HZ.out 0
  have hxl := blk_lt HX.out
  have hzl := blk_lt HZ.out
  by_cases hkl : k < days.length
  ·have n3 : decide (k < days.length) = true := by simpa using hkl
   obtain ⟨ad, A8, c8, rfl, g0, g1, _, _⟩ := day_at (Kd.C_below H7.out HF.out.below) k hkl
   obtain ⟨x, hx⟩ : ∃ x, days.getD k z54 = x := ⟨_, rfl⟩
   rw [hx] at g0 g1
   have hxm : days[k]? = some x := by rw [List.getD_eq_getElem?_getD, List.getElem?_eq_getElem hkl] at hx; rw [List.getElem?_eq_getElem hkl]; simpa using hx
   have hlx : x.f1.length ≤ 1000000 := HDL.out x (List.mem_of_getElem? hxm)
   have hst : sumB a0 (days.take (k + 1)) = sm + if x.f0 < a0 then x.f1.length else 0 := by
    rw [List.take_add_one, hxm, sumB_append, ← HSM.out]; simp [sumB]
   have hsl : sumB a0 (days.take (k + 1)) ≤ 1000000000000 := by
    have h8 := sumB_le a0 (days.take (k + 1)) (M := 1000000) (fun s hs => HDL.out s (List.mem_of_mem_take hs))
    have h9 : (days.take (k + 1)).length ≤ 1000000 := by rw [List.length_take]; omega
    have : (days.take (k + 1)).length * 1000000 ≤ 1000000 * 1000000 := Nat.mul_le_mul_right _ h9
    omega
   have HST := AsM hst
   have HSL := AsM hsl
   clear hx hxm hst hsl
   by_cases hxt : x.f0 < a0
   ·have n4 : decide (x.f0 < a0) = true := by simpa using hxt
    go_wp2
    go_quiet (fail)
    go_wp2
    go_roundg (days.length - (k + 1))
    case measure => have := HM.out; omega
    case rel => exact ⟨k + 1, sm + x.f1.length, by go_num, ⟨by rw [HST.out, if_pos hxt]⟩, by have := HSL.out; rw [HST.out, if_pos hxt] at this; exact this, by go_num, by omega, ⟨Nat.le_refl _⟩, ⟨FX HF.out⟩, ⟨by (with_reducible (repeat (first | apply blk_drew | apply blk_alloc | apply blk_set))); first | exact HX.out | exact blk_drewN HX.out _⟩, ⟨by (with_reducible (repeat (first | apply blk_drew | apply blk_alloc | apply blk_set))); first | exact HZ.out | exact blk_drewN HZ.out _⟩⟩
   ·have n4 : decide (x.f0 < a0) = false := by simpa using hxt
    go_wp2
    go_quiet (fail)
    go_wp2
    go_roundg (days.length - (k + 1))
    case measure => have := HM.out; omega
    case rel => exact ⟨k + 1, sm, rfl, ⟨by rw [HST.out, if_neg (by omega)]; rfl⟩, hsm, by go_num, by omega, ⟨Nat.le_refl _⟩, ⟨FX HF.out⟩, ⟨by (with_reducible (repeat (first | apply blk_drew | apply blk_alloc | apply blk_set))); first | exact HX.out | exact blk_drewN HX.out _⟩, ⟨by (with_reducible (repeat (first | apply blk_drew | apply blk_alloc | apply blk_set))); first | exact HZ.out | exact blk_drewN HZ.out _⟩⟩
  ·obtain rfl : k = days.length := by omega
   have n3 : decide (days.length < days.length) = false := by simp
   have hse := HSM.out
   rw [List.take_length] at hse
   have HSE := AsM hse
   have z1 := blk_cell HZ.out 1
   clear hse HSM
   by_cases hs1 : (sm : Int) < a1
   ·obtain rfl : false = R := by rw [← HR1.out, if_pos (Or.inl (by rw [← HSE.out]; exact hs1))]
    have n5 : decide ((sm : Int) < a1) = true := by simpa using hs1
    clear hs1
    go_wp2
    go_ret
    exact ⟨rfl, FX HF.out⟩
   have n5 : decide ((sm : Int) < a1) = false := by simpa using hs1
   have HS1 : Aside0 (¬ ((sumB a0 days : Nat) : Int) < a1) := ⟨by rw [← HSE.out]; exact hs1⟩
   clear hs1 HSE
   go_upto_region 11 with fail
   refine name_ (fun V => Aside0 (Fr w V []) ∧ Aside0 (V.heap[w.heap.size]? = some (.cells #[.slice A0 n0 c0, .slice A1 n1 c1, .slice A2 n2 c2, .int .i64 hor, .int .i64 cel, .int .i64 slo, .int .i64 sta, .slice A7 days.length c7] 26 (0, 0))) ∧ Aside0 (V.heap[w.heap.size + 1 + 1]? = some (.cells #[.int .i64 a0, .int .i64 a1, .slice B2 l2.length d2, .slice B3 l3.length d3, .int .i64 a4, .int .i64 a5] 30 (0, 0)))) ⟨⟨FX HF.out⟩, ⟨by (with_reducible (repeat (first | apply blk_drew | apply blk_alloc | apply blk_set))); first | exact HX.out | exact blk_drewN HX.out _⟩, ⟨by (with_reducible (repeat (first | apply blk_drew | apply blk_alloc | apply blk_set))); first | exact HZ.out | exact blk_drewN HZ.out _⟩⟩ ?_
   clear HF HX HZ x7 z0 z1 hxl hzl HM hk n3 n5 hsm hkl
   rintro V2 ⟨HVF, HVX, HVZ⟩
   go_wp2
   go_loopg [9] l3.length (fun kq s9 wr => ∃ (k : Nat), s9 = .int .i64 k ∧ k ≤ l3.length ∧ Aside0 (l3.length - k ≤ kq) ∧ Aside0 (Fr w wr []) ∧ Aside0 (wr.heap[w.heap.size]? = some (.cells #[.slice A0 n0 c0, .slice A1 n1 c1, .slice A2 n2 c2, .int .i64 hor, .int .i64 cel, .int .i64 slo, .int .i64 sta, .slice A7 days.length c7] 26 (0, 0))) ∧ Aside0 (wr.heap[w.heap.size + 1 + 1]? = some (.cells #[.int .i64 a0, .int .i64 a1, .slice B2 l2.length d2, .slice B3 l3.length d3, .int .i64 a4, .int .i64 a5] 30 (0, 0))) ∧ Aside0 ((l3.take k).any (rowBad n0) = false))
   case atStart => exact ⟨0, rfl, Nat.zero_le _, ⟨Nat.le_refl _⟩, HVF, HVX, HVZ, ⟨rfl⟩⟩
   case round =>
    clear HVF HVX HVZ
    obtain ⟨k, rfl, hk, HM, HF, HX, HZ, HNB⟩ := hrel
    have x0 : wr.cell? ⟨w.heap.size, 0, none⟩ = some (.slice A0 n0 c0) := blk_cell HX.out 0
    have z3 := blk_cell HZ.out 3
    have hxl := blk_lt HX.out
    have hzl := blk_lt HZ.out
    by_cases hkl : k < l3.length
    ·have n3 : decide (k < l3.length) = true := by simpa using hkl
     obtain ⟨ad, B0, d0, rfl, h1, h2, h3⟩ := at_L3 (Kd.C_below H3.out HF.out.below) (k : Int) (by omega) (by omega)
     simp only [rd_L3, Int.toNat_natCast] at h1 h2 h3
     obtain ⟨xs, hxs⟩ : ∃ xs, l3.getD k [] = xs := ⟨_, rfl⟩
     rw [hxs] at h1 h2 h3
     have hxm : l3[k]? = some xs := by rw [List.getD_eq_getElem?_getD, List.getElem?_eq_getElem hkl] at hxs; rw [List.getElem?_eq_getElem hkl]; simpa using hxs
     have HXM := AsM hxm
     have HX3 := AsM h3
     have HH1 := AsM h1
     have hxs63 := Kd.C_max h3
     clear h3 hxs hxm
     by_cases hn : xs.length = n0
     case neg =>
      have n7 : ((xs.length : Int) != (n0 : Int)) = true := by rw [bne_iff_ne]; exact fun h9 => hn (by omega)
      obtain rfl : false = R := by
       rw [← HR1.out]
       split
       ·rfl
       ·rw [if_pos (List.any_eq_true.2 ⟨xs, List.mem_of_getElem? HXM.out, by unfold rowBad; simp [hn]⟩)]
      clear hn
      go_wp2
      go_quiet (fail)
      go_wp2
      go_ret
      exact ⟨rfl, FX HF.out⟩
     case pos =>
     have n7 : ((xs.length : Int) != (n0 : Int)) = false := by rw [bne_eq_false_iff_eq]; omega
     have HN := AsM hn
     clear hn
     go_wp2
     go_quiet (fail)
     go_upto_region 16 with fail
     refine name_ (fun V => Aside0 (Fr wr V []) ∧ Aside0 (V.heap[w.heap.size]? = some (.cells #[.slice A0 n0 c0, .slice A1 n1 c1, .slice A2 n2 c2, .int .i64 hor, .int .i64 cel, .int .i64 slo, .int .i64 sta, .slice A7 days.length c7] 26 (0, 0))) ∧ Aside0 (V.heap[w.heap.size + 1 + 1]? = some (.cells #[.int .i64 a0, .int .i64 a1, .slice B2 l2.length d2, .slice (some ad) l3.length d3, .int .i64 a4, .int .i64 a5] 30 (0, 0)))) ⟨⟨FQ⟩, ⟨by (with_reducible (repeat (first | apply blk_drew | apply blk_alloc | apply blk_set))); first | exact HX.out | exact blk_drewN HX.out _⟩, ⟨by (with_reducible (repeat (first | apply blk_drew | apply blk_alloc | apply blk_set))); first | exact HZ.out | exact blk_drewN HZ.out _⟩⟩ ?_
     clear HX HZ x0 z3 hxl hzl h1 n3 n7
     rintro V3 ⟨HVF, HVX, HVZ⟩
     go_wp2
     go_loopg [10] xs.length (fun kq s10 wi => ∃ (j : Nat), s10 = .int .i64 j ∧ j ≤ xs.length ∧ Aside0 (xs.length - j ≤ kq) ∧ Aside0 (Fr wr wi []) ∧ Aside0 (wi.heap[w.heap.size]? = some (.cells #[.slice A0 n0 c0, .slice A1 n1 c1, .slice A2 n2 c2, .int .i64 hor, .int .i64 cel, .int .i64 slo, .int .i64 sta, .slice A7 days.length c7] 26 (0, 0))) ∧ Aside0 (wi.heap[w.heap.size + 1 + 1]? = some (.cells #[.int .i64 a0, .int .i64 a1, .slice B2 l2.length d2, .slice (some ad) l3.length d3, .int .i64 a4, .int .i64 a5] 30 (0, 0))) ∧ Aside0 ((xs.take j).any cellBad = false))
     case atStart => exact ⟨0, rfl, Nat.zero_le _, ⟨Nat.le_refl _⟩, HVF, HVX, HVZ, ⟨rfl⟩⟩
     case round =>
      clear HVF HVX HVZ
      obtain ⟨j, rfl, hj, HM2, HFI, HXI, HZI, HNC⟩ := hrel
      have z3 := blk_cell HZI.out 3
      have hzl := blk_lt HZI.out
      have h1 := fr_at HH1.out HFI.out (by simp)
      by_cases hjl : j < xs.length
      ·have n4 : decide (j < xs.length) = true := by simpa using hjl
       obtain ⟨ae, rfl, y0, y1⟩ := at_T45 (Kd.C_below HX3.out HFI.out.below) (j : Int) (by omega) (by omega)
       simp only [rd_T45, Int.toNat_natCast] at y0 y1
       obtain ⟨x, hx⟩ : ∃ x, xs.getD j z45 = x := ⟨_, rfl⟩
       rw [hx] at y0 y1
       have hxm : xs[j]? = some x := by rw [List.getD_eq_getElem?_getD, List.getElem?_eq_getElem hjl] at hx; rw [List.getElem?_eq_getElem hjl]; simpa using hx
       have HXC := AsM hxm
       clear hx hxm
       obtain ⟨xb, xv⟩ := x
       simp only at y0 y1
       have hcs : xb = true ∨ (xb = false ∧ xv = 0) ∨ (xb = false ∧ xv ≠ 0) := by cases xb <;> simp <;> omega
       rcases hcs with rfl | ⟨rfl, rfl⟩ | ⟨rfl, hv⟩
       ·go_wp2
        go_roundg (xs.length - (j + 1))
        case measure => have := HM2.out; omega
        case rel => exact ⟨j + 1, by go_num, by omega, ⟨Nat.le_refl _⟩, ⟨FX HFI.out⟩, ⟨by (with_reducible (repeat (first | apply blk_drew | apply blk_alloc | apply blk_set))); first | exact HXI.out | exact blk_drewN HXI.out _⟩, ⟨by (with_reducible (repeat (first | apply blk_drew | apply blk_alloc | apply blk_set))); first | exact HZI.out | exact blk_drewN HZI.out _⟩, ⟨by rw [List.take_add_one, HXC.out, List.any_append, HNC.out]; rfl⟩⟩
       ·go_wp2
        go_roundg (xs.length - (j + 1))
        case measure => have := HM2.out; omega
        case rel => exact ⟨j + 1, by go_num, by omega, ⟨Nat.le_refl _⟩, ⟨FX HFI.out⟩, ⟨by (with_reducible (repeat (first | apply blk_drew | apply blk_alloc | apply blk_set))); first | exact HXI.out | exact blk_drewN HXI.out _⟩, ⟨by (with_reducible (repeat (first | apply blk_drew | apply blk_alloc | apply blk_set))); first | exact HZI.out | exact blk_drewN HZI.out _⟩, ⟨by rw [List.take_add_one, HXC.out, List.any_append, HNC.out]; rfl⟩⟩
       ·have n6 : (xv != 0) = true := by simpa using hv
        obtain rfl : false = R := by
         rw [← HR1.out]
         split
         ·rfl
         ·rw [if_pos (List.any_eq_true.2 ⟨xs, List.mem_of_getElem? HXM.out, by unfold rowBad; rw [Bool.or_eq_true]; exact Or.inr (List.any_eq_true.2 ⟨_, List.mem_of_getElem? HXC.out, by simp [cellBad, hv]⟩)⟩)]
        clear hv
        go_wp2
        go_ret
        exact ⟨rfl, HF.out.trans (FX HFI.out) (by simp)⟩
      ·obtain rfl : j = xs.length := by omega
       have n4 : decide (xs.length < xs.length) = false := by simp
       have hnc := HNC.out
       rw [List.take_length] at hnc
       have HRB : Aside0 (rowBad n0 xs = false) := ⟨by unfold rowBad; rw [hnc, HN.out]; simp⟩
       clear hnc
       go_wp2
       go_roundg (l3.length - (k + 1))
       case measure => have := HM.out; omega
       case rel => exact ⟨k + 1, by go_num, by omega, ⟨Nat.le_refl _⟩, ⟨HF.out.trans (FX HFI.out) (by simp)⟩, ⟨by (with_reducible (repeat (first | apply blk_drew | apply blk_alloc | apply blk_set))); first | exact HXI.out | exact blk_drewN HXI.out _⟩, ⟨by (with_reducible (repeat (first | apply blk_drew | apply blk_alloc | apply blk_set))); first | exact HZI.out | exact blk_drewN HZI.out _⟩, ⟨by rw [List.take_add_one, HXM.out, List.any_append, HNB.out]; simp [HRB.out]⟩⟩
    ·obtain rfl : k = l3.length := by omega
     have n3 : decide (l3.length < l3.length) = false := by simp
     have hnb := HNB.out
     rw [List.take_length] at hnb
     have HB3 := AsM hnb
     clear hnb HNB
     go_upto_region 21 with fail
     refine name_ (fun V => Aside0 (Fr w V []) ∧ Aside0 (V.heap[w.heap.size]? = some (.cells #[.slice A0 n0 c0, .slice A1 n1 c1, .slice A2 n2 c2, .int .i64 hor, .int .i64 cel, .int .i64 slo, .int .i64 sta, .slice A7 days.length c7] 26 (0, 0))) ∧ Aside0 (V.heap[w.heap.size + 1 + 1]? = some (.cells #[.int .i64 a0, .int .i64 a1, .slice B2 l2.length d2, .slice B3 l3.length d3, .int .i64 a4, .int .i64 a5] 30 (0, 0)))) ⟨⟨FX HF.out⟩, ⟨by (with_reducible (repeat (first | apply blk_drew | apply blk_alloc | apply blk_set))); first | exact HX.out | exact blk_drewN HX.out _⟩, ⟨by (with_reducible (repeat (first | apply blk_drew | apply blk_alloc | apply blk_set))); first | exact HZ.out | exact blk_drewN HZ.out _⟩⟩ ?_
     clear HF HX HZ x0 z3 hxl hzl HM hk n3 hkl
     rintro V3 ⟨HVF, HVX, HVZ⟩
     go_wp2
     go_loopg [11] l2.length (fun kq s11 wr => ∃ (k : Nat), s11 = .int .i64 k ∧ k ≤ l2.length ∧ Aside0 (l2.length - k ≤ kq) ∧ Aside0 (Fr w wr []) ∧ Aside0 (wr.heap[w.heap.size]? = some (.cells #[.slice A0 n0 c0, .slice A1 n1 c1, .slice A2 n2 c2, .int .i64 hor, .int .i64 cel, .int .i64 slo, .int .i64 sta, .slice A7 days.length c7] 26 (0, 0))) ∧ Aside0 (wr.heap[w.heap.size + 1 + 1]? = some (.cells #[.int .i64 a0, .int .i64 a1, .slice B2 l2.length d2, .slice B3 l3.length d3, .int .i64 a4, .int .i64 a5] 30 (0, 0))) ∧ Aside0 (a0 = 0 → (l2.take k).any (fun s => !(decide (s = 0))) = false))
     case atStart => exact ⟨0, rfl, Nat.zero_le _, ⟨Nat.le_refl _⟩, HVF, HVX, HVZ, ⟨fun _ => rfl⟩⟩
     case round =>
      clear HVF HVX HVZ
      obtain ⟨k, rfl, hk, HM, HF, HX, HZ, HNB⟩ := hrel
      have z0 := blk_cell HZ.out 0
      have z2 := blk_cell HZ.out 2
      have hxl := blk_lt HX.out
      have hzl := blk_lt HZ.out
      by_cases hkl : k < l2.length
      ·have n3 : decide (k < l2.length) = true := by simpa using hkl
       by_cases ha0 : a0 = 0
       ·have n5 : (a0 == 0) = true := by simpa using ha0
        obtain ⟨ad, rfl, y0⟩ := iat_at (Kd.C_below H2.out HF.out.below) k hkl
        obtain ⟨x, hx⟩ : ∃ x, l2.getD k 0 = x := ⟨_, rfl⟩
        rw [hx] at y0
        have hxm : l2[k]? = some x := by rw [List.getD_eq_getElem?_getD, List.getElem?_eq_getElem hkl] at hx; rw [List.getElem?_eq_getElem hkl]; simpa using hx
        have HXC := AsM hxm
        have HA0 := AsM ha0
        clear hx hxm ha0
        by_cases hv : x = 0
        ·subst hv
         go_wp2
         go_roundg (l2.length - (k + 1))
         case measure => have := HM.out; omega
         case rel => exact ⟨k + 1, by go_num, by omega, ⟨Nat.le_refl _⟩, ⟨FX HF.out⟩, ⟨by (with_reducible (repeat (first | apply blk_drew | apply blk_alloc | apply blk_set))); first | exact HX.out | exact blk_drewN HX.out _⟩, ⟨by (with_reducible (repeat (first | apply blk_drew | apply blk_alloc | apply blk_set))); first | exact HZ.out | exact blk_drewN HZ.out _⟩, ⟨fun h => by rw [List.take_add_one, HXC.out, List.any_append, HNB.out h]; rfl⟩⟩
        ·have n6 : (x != 0) = true := by simpa using hv
         obtain rfl : false = R := by rw [← HR1.out, if_pos (Or.inr ⟨HA0.out, List.any_eq_true.2 ⟨_, List.mem_of_getElem? HXC.out, by simpa using hv⟩⟩)]
         clear hv
         go_wp2
         go_ret
         exact ⟨rfl, FX HF.out⟩
       ·have n5 : (a0 == 0) = false := by simpa using ha0
        have HA0 := AsM ha0
        clear ha0
        go_wp2
        go_roundg (l2.length - (k + 1))
        case measure => have := HM.out; omega
        case rel => exact ⟨k + 1, by go_num, by omega, ⟨Nat.le_refl _⟩, ⟨FX HF.out⟩, ⟨by (with_reducible (repeat (first | apply blk_drew | apply blk_alloc | apply blk_set))); first | exact HX.out | exact blk_drewN HX.out _⟩, ⟨by (with_reducible (repeat (first | apply blk_drew | apply blk_alloc | apply blk_set))); first | exact HZ.out | exact blk_drewN HZ.out _⟩, ⟨fun h => absurd h HA0.out⟩⟩
      ·obtain rfl : k = l2.length := by omega
       have n3 : decide (l2.length < l2.length) = false := by simp
       have hr3 := HR1.out
       have hnb := HNB.out
       rw [List.take_length] at hnb
       rw [if_neg (fun h => h.elim (fun h => absurd HS1.out (Int.not_le.2 h)) (fun h => by have h9 := hnb h.1; rw [h9] at h; exact absurd h.2 (by decide))), if_neg (by rw [HB3.out]; decide)] at hr3
       have z4 := blk_cell HZ.out 4
       have z5 := blk_cell HZ.out 5
       obtain ⟨x0, x1, x2, x3, x4, x5, x6, x7⟩ := cc8 HX.out
       by_cases h40 : a4 = 0
       ·have n8 : (a4 == 0) = true := by simpa using h40
        rw [if_pos h40] at hr3
        have n9 : (a5 == 0) = R := by rw [← hr3]; by_cases h : a5 = 0 <;> simp [h]
        clear hr3 hnb h40
        go_wp2
        go_ret
        exact ⟨rfl, FX HF.out⟩
       ·have n8 : (a4 == 0) = false := by simpa using h40
        rw [if_neg h40] at hr3
        have CSG : Aside0 (∀ W, Fr w W [] → Calls Tryz.prog 74 #[.agg #[.slice A0 n0 c0, .slice A1 n1 c1, .slice A2 n2 c2, .int .i64 hor, .int .i64 cel, .int .i64 slo, .int .i64 sta, .slice A7 days.length c7], .int .i64 a5] W (SegPost (segB days a5) W)) := ⟨fun W h => segment_calls A0 n0 c0 A1 n1 c1 A2 n2 c2 hor cel slo sta A7 c7 days a5 W (Kd.C_below H7.out h.below)⟩
        have hqq : decide (a5 = a0 - 1) = (a5 == a0 - 1) := by by_cases h : a5 = a0 - 1 <;> simp [h]
        have hqp : decide (0 < a4) = decide (1 ≤ a4) := by by_cases h : 1 ≤ a4 <;> simp <;> omega
        rw [hqq, hqp] at hr3
        have n10 : IntKind.i64.wrap (a0 - 1) = a0 - 1 := by rw [i64_w]; have := HC.out; unfold wrap64; omega
        obtain ⟨q1, hq1⟩ : ∃ x, decide (1 ≤ a4) = x := ⟨_, rfl⟩
        obtain ⟨q2, hq2⟩ : ∃ x, decide (a4 ≤ 3) = x := ⟨_, rfl⟩
        obtain ⟨q3, hq3⟩ : ∃ x, decide (1 ≤ a0) = x := ⟨_, rfl⟩
        obtain ⟨q4, hq4⟩ : ∃ x, (a5 == a0 - 1) = x := ⟨_, rfl⟩
        obtain ⟨sg, hsg⟩ : ∃ x, segB days a5 = x := ⟨_, rfl⟩
        rw [hsg] at CSG
        rw [hq1, hq2, hq3, hq4, hsg] at hr3
        clear hqq hqp hsg hnb h40
        subst hr3
        have hcs : q1 = false ∨ (q1 = true ∧ q2 = false) ∨ (q1 = true ∧ q2 = true ∧ q3 = false) ∨ (q1 = true ∧ q2 = true ∧ q3 = true ∧ q4 = false) ∨ (q1 = true ∧ q2 = true ∧ q3 = true ∧ q4 = true) := by cases q1 <;> cases q2 <;> cases q3 <;> cases q4 <;> decide
        rcases hcs with rfl | ⟨rfl, rfl⟩ | ⟨rfl, rfl, rfl⟩ | ⟨rfl, rfl, rfl, rfl⟩ | ⟨rfl, rfl, rfl, rfl⟩
        ·go_wp2
         go_ret
         exact ⟨by simp, FX HF.out⟩
        ·go_wp2
         go_ret
         exact ⟨by simp, FX HF.out⟩
        ·go_wp2
         go_ret
         exact ⟨by simp, FX HF.out⟩
        ·go_wp2
         go_ret
         exact ⟨by simp, FX HF.out⟩
        ·go_wp2_with (first | (go_at_call 74; (with_reducible refine (CSG.out _ ?_).mono ?_); (next => exact FX HF.out); rintro e W9 ⟨v9, rfl, hv9, hF9⟩; have HF9 : Aside0 (Fr w W9 []) := ⟨Fr.trans (M := []) (FX HF.out) hF9 (by simp)⟩; clear hF9))
         go_ret
         exact ⟨by simp, FX HF9.out⟩
def refCells (A0 : Option Addr) (n0 c0 : Nat) (x1 x2 : Value) (hor cel slo sta : Int) (A7 : Option Addr) (n7 c7 : Nat) (pst pfu pba : Int) (x13 : Value) : Array Value :=
 #[.slice A0 n0 c0, x1, x2, .int .i64 hor, .int .i64 cel, .int .i64 slo, .int .i64 sta, .slice A7 n7 c7, .int .i64 pst, .int .i64 pfu, .int .i64 pba, .int .i64 0, .int .i64 0, x13, .slice none 0 0, .int .i64 0, .int .i64 0, .slice none 0 0]
def NewPost (r : Int × Acc) (A0 : Option Addr) (n0 c0 : Nat) (x1 x2 : Value) (hor cel slo sta : Int) (A7 : Option Addr) (n7 c7 : Nat) (w : World) (e : Ending) (w' : World) : Prop :=
 Fr w w' [] ∧ ∃ pv, e = .returned (.tuple #[pv, .int .i64 r.1]) ∧ (r.1 = 0 → ∃ g q m c, pv = .pointer (some ⟨g, 0, none⟩) ∧ w.heap.size ≤ g ∧ w'.heap[g]? = some (.cells (refCells A0 n0 c0 x1 x2 hor cel slo sta A7 n7 c7 r.2.stack r.2.fuel r.2.back (.slice (some ⟨q, 0, none⟩) m c)) 105 (0, 0)))
theorem new_err {r : Int × Acc} {A0 : Option Addr} {n0 c0 : Nat} {x1 x2 : Value} {hor cel slo sta : Int} {A7 : Option Addr} {n7 c7 : Nat} {w W : World} {err : Int} (h : r.1 = err) (hf : Fr w W []) (hz : err ≠ 0) : NewPost r A0 n0 c0 x1 x2 hor cel slo sta A7 n7 c7 w (.returned (.tuple #[.pointer none, .int .i64 err])) W := by
 subst h
 exact ⟨hf, _, rfl, fun h => absurd h hz⟩
theorem ver0R {names curs : List ByteArray} {pool : List Int} {hor cel slo sta : Int} {days : List S54} (h : (verifyR names curs pool hor cel slo sta days).1 = 0) : listsB names curs pool hor cel slo sta = true ∧ days.length ≤ 1000000 ∧ ∀ s ∈ days, DayOk s := by
 unfold verifyR at h
 by_cases hc : canonP names curs pool hor cel slo sta days = 0
 ·exact canonP_ok hc
 ·rw [if_pos hc] at h
  exact absurd h hc
theorem new_calls (A0 : Option Addr) (c0 : Nat) (names : List ByteArray) (A1 : Option Addr) (c1 : Nat) (curs : List ByteArray) (A2 : Option Addr) (c2 : Nat) (pool : List Int) (hor cel slo sta : Int) (A7 : Option Addr) (c7 : Nat) (days : List S54) (w : World) (hr0 : Kd.C Kd.string w A0 names.length names) (hc0 : names.length ≤ c0) (hr1 : Kd.C Kd.string w A1 curs.length curs) (hc1 : curs.length ≤ c1) (hr2 : Kd.C (Kd.int .i64) w A2 pool.length pool) (hr7 : Kd.C k54 w A7 days.length days) (hc7 : days.length ≤ c7) (hdl : ∀ s ∈ days, s.f1.length ≤ 10000000000000) (hsz : ∀ s ∈ names, s.size ≤ 9223372036854775806) (G : TabW w) :
  Calls Tryz.prog 40 #[.agg #[.slice A0 names.length c0, .slice A1 curs.length c1, .slice A2 pool.length c2, .int .i64 hor, .int .i64 cel, .int .i64 slo, .int .i64 sta, .slice A7 days.length c7]] w (NewPost (verifyR names curs pool hor cel slo sta days) A0 names.length c0 (.slice A1 curs.length c1) (.slice A2 pool.length c2) hor cel slo sta A7 days.length c7 w) := by
 obtain ⟨R, hR⟩ : ∃ x, verifyR names curs pool hor cel slo sta days = x := ⟨_, rfl⟩
 have hv0 := fun h => ver0R (names := names) (curs := curs) (pool := pool) (hor := hor) (cel := cel) (slo := slo) (sta := sta) (days := days) h
 have CC : Aside0 (∀ W, Fr w W [] → Calls Tryz.prog 72 #[.agg #[.slice A0 names.length c0, .slice A1 curs.length c1, .slice A2 pool.length c2, .int .i64 hor, .int .i64 cel, .int .i64 slo, .int .i64 sta, .slice A7 days.length c7]] W (VerRPost R W)) := ⟨fun W h => hR ▸ rVerify_calls A0 c0 names A1 c1 curs A2 c2 pool hor cel slo sta A7 c7 days W (Kd.C_below hr0 h.below) hc0 (Kd.C_below hr1 h.below) hc1 (Kd.C_below hr2 h.below) (Kd.C_below hr7 h.below) hc7 hdl hsz (G.fr0 h)⟩
 rw [hR] at hv0 ⊢
 clear hr0 hr1 hr2 hr7 G hdl hsz hR
 obtain ⟨err, acc⟩ := R
 simp only at hv0
 have hup := Tryz.underlying26
 have huq := Tryz.underlying76
 have hus := Tryz.underlying30
 have hum := Tryz.underlying105
 by_cases hz : err = 0
 case neg =>
  have hz2 : (err != 0) = true := by simpa using hz
  have HZ := AsM hz
  clear hz hv0
  go_enter Tryz.func40, Tryz.ntmps40
  go_wp2_with (first | (go_at_call 72; (with_reducible refine (CC.out _ ?_).mono ?_); (next => exact FQ); rintro e W1 ⟨st, dd, kk, rfl, hF1, _⟩; have HF1 : Aside0 (Fr w W1 []) := ⟨Fr.trans (M := []) FQ hF1 (by simp)⟩; clear hF1))
  go_ret2
  exact new_err rfl (by (with_reducible (repeat (first | exact Fr.refl _ _ | refine Fr.drew ?_ | refine Fr.drewN ?_ _ | refine Fr.alloc ?_ _ | refine Fr.setCell ?_ _ _ ?_))) <;> first | exact HF1.out | simp) HZ.out
 case pos =>
  subst hz
  have hli := lists_facts (hv0 rfl).1
  obtain ⟨cn, rfl⟩ : ∃ cn : Nat, cel = cn := ⟨cel.toNat, by omega⟩
  have mk1 := mk_runI cn (by omega)
  clear hv0 hli
  go_enter Tryz.func40, Tryz.ntmps40
  go_upto_region 4 with (first | (go_at_call 72; (with_reducible refine (CC.out _ ?_).mono ?_); (next => exact FQ); rintro e W1 ⟨st, dd, kk, rfl, hF1, hst⟩; obtain rfl : acc = st := (hst rfl).symm; have HX1 := AsM (hF1.blk (g := w.heap.size) (blk_newN rfl) (by simp)); have HF1 : Aside0 (Fr w W1 []) := ⟨Fr.trans (M := []) FQ hF1 (by simp)⟩; clear hF1))
  refine name_ (fun V => Aside0 (Fr w V []) ∧ Aside0 (V.heap[w.heap.size]? = some (.cells #[.slice A0 names.length c0, .slice A1 curs.length c1, .slice A2 pool.length c2, .int .i64 hor, .int .i64 cn, .int .i64 slo, .int .i64 sta, .slice A7 days.length c7] 26 (0, 0))) ∧ Aside0 (V.heap[W1.heap.size]? = some (.cells #[.int .i64 acc.stack, .int .i64 acc.fuel, .int .i64 acc.back] 76 (0, 0)))) ⟨⟨FX HF1.out⟩, ⟨blk_alloc HX1.out _⟩, ⟨blk_newN rfl⟩⟩ ?_
  obtain ⟨p, hp⟩ : ∃ p, W1.heap.size = p := ⟨_, rfl⟩
  rw [hp]
  clear HX1 HF1 CC hp
  rintro V ⟨HVF, HVX, HVP⟩
  obtain ⟨x0, x1, x2, x3, x4, x5, x6, x7⟩ := cc8 HVX.out
  obtain ⟨p0, p1, p2⟩ := cc3 HVP.out
  have hxl := blk_lt HVX.out
  have hpl := blk_lt HVP.out
  go_region
  go_wp2
  go_ret2
  exact ⟨FX HVF.out, _, rfl, fun _ => ⟨V.heap.size + 1, V.heap.size, cn, cn, rfl, by have := HVF.out.size; omega, blk_drew (blk_newN (by simp))⟩⟩
end Go.Proofs.YtpoehkacfmljcaaGreatDoor.H
