/- (*machine.Machine).may. -/
import Derived.Test.YtpoehkacfmljcaaGreatDoorZV
import Derived.Test.YtpoehkacfmljcaaGreatDoorZHD2
import Derived.Test.YtpoehkacfmljcaaGreatDoorZWH
set_option maxHeartbeats 4000000
set_option maxRecDepth 100000
namespace Go.Proofs.YtpoehkacfmljcaaGreatDoor.H
open Go.RowKit Go.Proofs.YtpoehkacfmljcaaGreatDoorW.PrintWords Go.Proofs.YtpoehkacfmljcaaGreatDoorW.PrintLast Go.Proofs.YtpoehkacfmljcaaGreatDoorW.PrintMore
open Go.ChangeMaps (setBlock)
attribute [local go_sem] max2_int min2_int max_two min_two max_three min_three max_four min_four
set_option linter.unusedVariables false
set_option linter.unusedSimpArgs false
open Go.Proofs.YtpoehkacfmljcaaGreatDoor.M
theorem lookI_run {w : World} {es : Es Int} {clk r : Nat} (kk : Int) (hb : w.heap[r]? = some (obj encI es clk)) : ∃ x : Int,
  (Instr.lookup 77 (.map (some r)) (.int .i64 kk) true).run Tryz.prog w = .ok (.tuple #[.int .i64 x, .bool (look es kk).isSome]) w := by
 have hz : (zeroValue 3).run Tryz.prog w = .ok (.int .i64 0) w := by kernel_rfl
 have hr := run_look (enc := encI) (k := kk) (.int .i64 0) Tryz.underlying77 Tryz.underlying3 hz hb
 rw [hr]
 cases look es kk <;> exact ⟨_, rfl⟩
theorem dayr_at {w : World} {A : Option Addr} {n : Nat} {xs : List S54} (h : ReadsRow DayR 2 w A n xs) (k : Nat) (hk : k < n) : ∃ ad A1 c1, A = some ad ∧ w.cell? (ad.add (k * 2)) = some (.int .i64 (xs.getD k z54).f0) ∧ w.cell? ⟨(ad.add (k * 2)).block, (ad.add (k * 2)).off + 1, none⟩ = some (.slice A1 (xs.getD k z54).f1.length c1) := by
 obtain ⟨ad, c, e, _, ⟨A1, c1, hc1⟩, hc⟩ := h.get_ z54 (k : Int) (by omega) (by omega)
 simp only [Int.toNat_natCast] at hc1 hc
 subst hc1
 exact ⟨ad, A1, c1, e, by simpa using hc 0 _ rfl, by rw [← add_field _ _ 1 (by omega)]; exact hc 1 _ rfl⟩
def sumB (t : Int) : List S54 → Nat
 | [] => 0
 | s :: l => (if s.f0 < t then s.f1.length else 0) + sumB t l
theorem sumB_append (t : Int) (l m : List S54) : sumB t (l ++ m) = sumB t l + sumB t m := by
 induction l with
 | nil => simp [sumB]
 | cons x l ih => simp only [List.cons_append, sumB, ih]; omega
theorem sumB_le (t : Int) {M : Nat} : ∀ (l : List S54), (∀ s ∈ l, s.f1.length ≤ M) → sumB t l ≤ l.length * M
 | [], _ => by simp [sumB]
 | s :: l, h => by
  have h1 := h s List.mem_cons_self
  have h2 := sumB_le t l (fun x hx => h x (List.mem_cons_of_mem _ hx))
  simp only [sumB, List.length_cons, Nat.add_mul, Nat.one_mul]
  split <;> omega
def rowBad (nn : Nat) (r : List S45) : Bool := !(decide (r.length = nn)) || r.any cellBad
def mayB (nn : Nat) (hor cel pba : Int) (days : List S54) (a0 a1 : Int) (l2 : List Int) (l3 : List (List S45)) (a4 a5 : Int) : Bool :=
 if a0 < 0 ∨ hor + 1 < a0 ∨ a1 < 0 ∨ (l2.length : Int) ≠ cel ∨ (l3.length : Int) ≠ if pba < a0 then pba else a0 then false else
 if (sumB a0 days : Int) < a1 ∨ (a0 = 0 ∧ l2.any (fun s => !(decide (s = 0))) = true) then false else
 if l3.any (rowBad nn) then false else
 if a4 = 0 then decide (a5 = 0) else decide (0 < a4) && decide (a4 ≤ 3) && decide (1 ≤ a0) && decide (a5 = a0 - 1) && segB days a5
def MayPost (b : Bool) (w : World) (e : Ending) (w' : World) : Prop := e = .returned (.bool b) ∧ Fr w w' []
theorem may_early (g nn : Nat) (hor cel slo sta pst pfu pba : Int) (days : List S54) (a0 a1 : Int) (A2 : Option Addr) (c2 : Nat) (l2 : List Int) (A3 : Option Addr) (c3 : Nat) (l3 : List (List S45)) (a4 a5 : Int) (w : World) (hm : Mach w g nn hor cel slo sta pst pfu pba days) (hh : 0 ≤ hor ∧ hor ≤ 100000)
  (hc : a0 < 0 ∨ hor + 1 < a0 ∨ a1 < 0 ∨ (l2.length : Int) ≠ cel ∨ (l3.length : Int) ≠ if pba < a0 then pba else a0) :
  Calls Tryz.prog 33 #[.pointer (some ⟨g, 0, none⟩), .agg #[.int .i64 a0, .int .i64 a1, .slice A2 l2.length c2, .slice A3 l3.length c3, .int .i64 a4, .int .i64 a5]] w (MayPost false w) := by
 obtain ⟨A0, c0, x1, x2, A7, c7, m, es, clk, hb, _, _, _⟩ := hm
 obtain ⟨hh0, hh1⟩ := hh
 have HB := AsM hb
 have e0 : w.cell? ⟨g, 0, none⟩ = some (.slice A0 nn c0) := blk_cell hb 0
 have e3 : w.cell? ⟨g, 3, none⟩ = some (.int .i64 hor) := blk_cell hb 3
 have e4 : w.cell? ⟨g, 4, none⟩ = some (.int .i64 cel) := blk_cell hb 4
 have e10 : w.cell? ⟨g, 10, none⟩ = some (.int .i64 pba) := blk_cell hb 10
 have hgl := blk_lt hb
 clear hb
 have hup := Tryz.underlying30
 have hw : IntKind.i64.wrap (hor + 1) = hor + 1 := by rw [i64_w]; unfold wrap64; omega
 have hcase : decide (a0 < 0) = true ∨ (decide (a0 < 0) = false ∧ decide (hor + 1 < a0) = true) ∨ (decide (a0 < 0) = false ∧ decide (hor + 1 < a0) = false ∧ decide (a1 < 0) = true) ∨ (decide (a0 < 0) = false ∧ decide (hor + 1 < a0) = false ∧ decide (a1 < 0) = false ∧ ((l2.length : Int) != cel) = true) ∨ (decide (a0 < 0) = false ∧ decide (hor + 1 < a0) = false ∧ decide (a1 < 0) = false ∧ ((l2.length : Int) != cel) = false ∧ ((l3.length : Int) != (if pba < a0 then pba else a0)) = true) := by
  simp only [decide_eq_true_eq, decide_eq_false_iff_not, bne_iff_ne, ne_eq, bne_eq_false_iff_eq]
  generalize (if pba < a0 then pba else a0) = mn at hc ⊢
  omega
 clear hc
 by_cases hp : pba < a0
 case pos =>
  simp only [if_pos hp] at hcase
  rcases hcase with h1 | ⟨h1, h2⟩ | ⟨h1, h2, h3⟩ | ⟨h1, h2, h3, h4⟩ | ⟨h1, h2, h3, h4, h5⟩
  all_goals (go_enter Tryz.func33, Tryz.ntmps33; go_wp2; go_quiet (fail); (all_goals (go_wp2; go_ret; exact ⟨rfl, FQ⟩)))
 case neg =>
  simp only [if_neg hp] at hcase
  have hp := Int.not_lt.1 hp
  rcases hcase with h1 | ⟨h1, h2⟩ | ⟨h1, h2, h3⟩ | ⟨h1, h2, h3, h4⟩ | ⟨h1, h2, h3, h4, h5⟩
  all_goals (go_enter Tryz.func33, Tryz.ntmps33; go_wp2; go_quiet (fail); (all_goals (go_wp2; go_ret; exact ⟨rfl, FQ⟩)))
theorem may_rest (g nn : Nat) (hor cel slo sta pst pfu pba : Int) (days : List S54) (a0 a1 : Int) (A2 : Option Addr) (c2 : Nat) (l2 : List Int) (A3 : Option Addr) (c3 : Nat) (l3 : List (List S45)) (a4 a5 : Int) (w : World) (hm : Mach w g nn hor cel slo sta pst pfu pba days) (hh : 0 ≤ hor ∧ hor ≤ 100000) (hdn : days.length ≤ 1000000) (hdl : ∀ s ∈ days, s.f1.length ≤ 1000000)
  (hr2 : Kd.C (Kd.int .i64) w A2 l2.length l2) (hc2 : l2.length ≤ c2) (hr3 : Kd.C (Kd.slice 45 k45) w A3 l3.length l3) (hc3 : l3.length ≤ c3)
  (hc : ¬ (a0 < 0 ∨ hor + 1 < a0 ∨ a1 < 0 ∨ (l2.length : Int) ≠ cel ∨ (l3.length : Int) ≠ if pba < a0 then pba else a0)) :
  Calls Tryz.prog 33 #[.pointer (some ⟨g, 0, none⟩), .agg #[.int .i64 a0, .int .i64 a1, .slice A2 l2.length c2, .slice A3 l3.length c3, .int .i64 a4, .int .i64 a5]] w (MayPost (mayB nn hor cel pba days a0 a1 l2 l3 a4 a5) w) := by
 obtain ⟨R, hR⟩ : ∃ x, mayB nn hor cel pba days a0 a1 l2 l3 a4 a5 = x := ⟨_, rfl⟩
 rw [hR]
 unfold mayB at hR
 rw [if_neg hc] at hR
 have HR := AsM hR
 clear hR
 obtain ⟨A0, c0, x1, x2, A7, c7, m, es, clk, hb, hrr, hmp, hsg⟩ := hm
 obtain ⟨hh0, hh1⟩ := hh
 have HB := AsM hb
 have HRR := AsM hrr
 have HMP := AsM hmp
 have HSG := AsM hsg
 have H2 := AsM hr2
 have H3 := AsM hr3
 have HDL := AsM hdl
 clear hrr hmp hsg hr2 hr3 hdl
 have e0 : w.cell? ⟨g, 0, none⟩ = some (.slice A0 nn c0) := blk_cell hb 0
 have e3 : w.cell? ⟨g, 3, none⟩ = some (.int .i64 hor) := blk_cell hb 3
 have e4 : w.cell? ⟨g, 4, none⟩ = some (.int .i64 cel) := blk_cell hb 4
 have e7 : w.cell? ⟨g, 7, none⟩ = some (.slice A7 days.length c7) := blk_cell hb 7
 have e10 : w.cell? ⟨g, 10, none⟩ = some (.int .i64 pba) := blk_cell hb 10
 have hgl := blk_lt hb
 clear hb
 have hup := Tryz.underlying30
 have hus := Tryz.underlying54
 have hw : IntKind.i64.wrap (hor + 1) = hor + 1 := by rw [i64_w]; unfold wrap64; omega
 have HC := AsM hc
 obtain ⟨mn, hmn⟩ : ∃ mn, (if pba < a0 then pba else a0) = mn := ⟨_, rfl⟩
 rw [hmn] at hc
 have hcase : (decide (a0 < 0) = false ∧ decide (hor + 1 < a0) = false ∧ decide (a1 < 0) = false ∧ ((l2.length : Int) != cel) = false ∧ ((l3.length : Int) != mn) = false) := by
  simp only [decide_eq_false_iff_not, bne_iff_ne, ne_eq, bne_eq_false_iff_eq]
  omega
 obtain ⟨h1, h2, h3, h4, h5⟩ := hcase
 clear hc
 go_enter Tryz.func33, Tryz.ntmps33
 go_wp2
 go_quiet (fail)
 go_upto_region 4 with fail
 clear h1 h2 h3 h4 h5 hmn
 refine name_ (fun V => Aside0 (Fr w V []) ∧ Aside0 (V.heap[w.heap.size]? = some (.cells #[.int .i64 a0, .int .i64 a1, .slice A2 l2.length c2, .slice A3 l3.length c3, .int .i64 a4, .int .i64 a5] 30 (0, 0)))) ⟨⟨FQ⟩, ⟨by (with_reducible (repeat (first | apply blk_drew | apply blk_alloc | apply blk_set))); exact blk_drewN (blk_newN rfl) _⟩⟩ ?_
 rintro V ⟨HF1, HB1⟩
 obtain ⟨b0, b1, b2, b3, b4, b5⟩ := cc6 HB1.out
 have hbl := blk_lt HB1.out
 have f0 : V.cell? ⟨g, 0, none⟩ = some (.slice A0 nn c0) := blk_cell (HF1.out.blk HB.out (by simp)) 0
 have f7 : V.cell? ⟨g, 7, none⟩ = some (.slice A7 days.length c7) := blk_cell (HF1.out.blk HB.out (by simp)) 7
 have f11 : V.cell? ⟨g, 11, none⟩ = some (.map (some m)) := blk_cell (HF1.out.blk HB.out (by simp)) 11
 have hgl2 : g < V.heap.size := by omega
 go_wp2
 go_loopg [5, 7, 62] days.length (fun kq s5 s7 s62 wr => ∃ (k sm : Nat), s5 = .int .i64 sm ∧ Aside0 (sm = sumB a0 (days.take k)) ∧ sm ≤ 1000000000000 ∧ s62 = .int .i64 k ∧ k ≤ days.length ∧ Aside0 (days.length - k ≤ kq) ∧ Aside0 (Fr V wr []))
 case atStart => exact ⟨0, 0, rfl, ⟨rfl⟩, by omega, rfl, Nat.zero_le _, ⟨Nat.le_refl _⟩, ⟨FQ⟩⟩
 case round =>
  obtain ⟨k, sm, rfl, HSM, hsm, rfl, hk, HM, HFW⟩ := hrel
  have hvw : V.heap.size ≤ wr.heap.size := HFW.out.size
  have b0' := blk_cell (HFW.out.blk HB1.out (by simp)) 0
  have hbr : w.heap.size < wr.heap.size := by omega
  by_cases hkl : k < days.length
  ·have n3 : decide (k < days.length) = true := by simpa using hkl
   obtain ⟨ad, A1, c1, rfl, h1, h2⟩ := dayr_at (HRR.out.imp_ (HF1.out.trans HFW.out (by simp)).below (fun _ _ h => h)) k hkl
   obtain ⟨x, hx⟩ : ∃ x, days.getD k z54 = x := ⟨_, rfl⟩
   rw [hx] at h1 h2
   have hxm : days[k]? = some x := by rw [List.getD_eq_getElem?_getD, List.getElem?_eq_getElem hkl] at hx; rw [List.getElem?_eq_getElem hkl]; simpa using hx
   have hlx : x.f1.length ≤ 1000000 := HDL.out x (List.mem_of_getElem? hxm)
   have hst : sumB a0 (days.take (k + 1)) = sm + if x.f0 < a0 then x.f1.length else 0 := by
    rw [List.take_add_one, hxm, sumB_append, ← HSM.out]; simp [sumB]
   have hsl : sumB a0 (days.take (k + 1)) ≤ 1000000000000 := by
    have h8 := sumB_le a0 (days.take (k + 1)) (M := 1000000) (fun s hs => HDL.out s (List.mem_of_mem_take hs))
    have h9 : (days.take (k + 1)).length ≤ 1000000 := by rw [List.length_take]; omega
    have : (days.take (k + 1)).length * 1000000 ≤ 1000000 * 1000000 := Nat.mul_le_mul_right _ h9
    omega
   have HST := AsM hst
   have HSL := AsM hsl
   clear hx hxm hst hsl
   by_cases hxt : x.f0 < a0
   ·have n4 : decide (x.f0 < a0) = true := by simpa using hxt
    go_wp2
    go_roundg (days.length - (k + 1))
    case measure => have := HM.out; omega
    case rel => exact ⟨k + 1, sm + x.f1.length, by go_num, ⟨by rw [HST.out, if_pos hxt]⟩, by have := HSL.out; rw [HST.out, if_pos hxt] at this; exact this, by go_num, by omega, ⟨Nat.le_refl _⟩, ⟨by (with_reducible (repeat (first | exact Fr.refl _ _ | refine Fr.drew ?_ | refine Fr.drewN ?_ _ | refine Fr.alloc ?_ _ | refine Fr.setCell ?_ _ _ ?_))) <;> first | exact HFW.out | (simp; done) | exact .inr (by omega) | (simp; omega)⟩⟩
   ·have n4 : decide (x.f0 < a0) = false := by simpa using hxt
    go_wp2
    go_roundg (days.length - (k + 1))
    case measure => have := HM.out; omega
    case rel => exact ⟨k + 1, sm, rfl, ⟨by rw [HST.out, if_neg (by omega)]; rfl⟩, hsm, by go_num, by omega, ⟨Nat.le_refl _⟩, ⟨by (with_reducible (repeat (first | exact Fr.refl _ _ | refine Fr.drew ?_ | refine Fr.drewN ?_ _ | refine Fr.alloc ?_ _ | refine Fr.setCell ?_ _ _ ?_))) <;> first | exact HFW.out | (simp; done) | exact .inr (by omega) | (simp; omega)⟩⟩
  ·obtain rfl : k = days.length := by omega
   have n3 : decide (days.length < days.length) = false := by simp
   have hse := HSM.out
   rw [List.take_length] at hse
   have HSE := AsM hse
   clear hse HSM
   go_upto_region 10 with fail
   have hrl := blk_lt (HFW.out.blk HB1.out (by simp))
   have b1' := blk_cell (HFW.out.blk HB1.out (by simp)) 1
   have b2' := blk_cell (HFW.out.blk HB1.out (by simp)) 2
   obtain ⟨bad, hbad⟩ : ∃ x, decide ((sm : Int) < a1 ∨ (a0 = 0 ∧ l2.any (fun s => !(decide (s = 0))) = true)) = x := ⟨_, rfl⟩
   have HBAD := AsM hbad
   clear hbad
   have H20 : Aside0 (∀ b, l2.any (fun s => !(decide (s = 0))) = b → Calls Tryz.prog 50 #[.slice A2 l2.length c2, .func (Fn.func 51) #[] #[]] wr fun e w' => e = .returned (.bool b) ∧ Drawn0 wr w') := ⟨fun b h => containsI_calls A2 c2 l2 wr (Kd.C_below H2.out (HF1.out.trans HFW.out (by simp)).below) hc2 b h⟩
   go_cut [90] (fun b wx => b = .bool bad ∧ Aside0 (Fr V wx []))
   case first =>
    by_cases hs1 : (sm : Int) < a1
    ·obtain rfl : true = bad := by rw [← HBAD.out]; simp [hs1]
     have n5 : decide ((sm : Int) < a1) = true := by simpa using hs1
     go_wp2
     go_meet
     exact ⟨rfl, ⟨FX HFW.out⟩⟩
    ·have n5 : decide ((sm : Int) < a1) = false := by simpa using hs1
     by_cases ha0 : a0 = 0
     ·have n6 : (a0 == 0) = true := by simpa using ha0
      obtain ⟨an, han⟩ : ∃ x, l2.any (fun s => !(decide (s = 0))) = x := ⟨_, rfl⟩
      obtain rfl : an = bad := by rw [← HBAD.out, han]; simp [hs1, ha0]
      have HAN := AsM han
      clear han ha0 hs1
      go_wp2_with (first | (go_at_call 50; (refine (H20.out _ HAN.out).mono ?_); rintro e w' ⟨rfl, ⟨nd, rfl⟩⟩))
      go_meet
      exact ⟨by simp, ⟨FX HFW.out⟩⟩
     ·obtain rfl : false = bad := by rw [← HBAD.out]; simp [hs1, ha0]
      have n6 : (a0 == 0) = false := by simpa using ha0
      go_wp2
      go_meet
      exact ⟨rfl, ⟨FX HFW.out⟩⟩
   case rest =>
   obtain ⟨rfl, HF2⟩ := hcut
   cases bad
   case true =>
    obtain rfl : false = R := by
     have := HBAD.out
     rw [HSE.out] at this
     rw [← HR.out, if_pos (by simpa using this)]
    go_wp2
    go_ret
    exact ⟨rfl, HF1.out.trans (FX HF2.out) (by simp)⟩
   case false =>
   have hr2 := HR.out
   rw [if_neg (by have := HBAD.out; rw [HSE.out] at this; simpa using this)] at hr2
   have HR2 := AsM hr2
   clear hr2 HR HBAD HSE
   go_upto_region 12 with fail
   clear HFW b0' b1' b2' hbr hvw hrl H20 b0 b1 b2 b3 b4 b5 f0 f7 f11 hgl2 n3 hsm hk HM
   have hl63 := Kd.C_max H3.out
   have ha00 : 0 ≤ a0 := by have := HC.out; omega
   have ha01 : a0 ≤ 100001 := by have := HC.out; omega
   have b3 := blk_cell (HF2.out.blk HB1.out (by simp)) 3
   have hbv := blk_lt (HF2.out.blk HB1.out (by simp))
   go_wp2
   go_loopg [9, 94] l3.length (fun kq s9 s94 wr => ∃ (k : Nat), s94 = .int .i64 k ∧ k ≤ l3.length ∧ Aside0 (l3.length - k ≤ kq) ∧ Aside0 (Fr V wr []) ∧ Aside0 ((l3.take k).any (rowBad nn) = false))
   case atStart => exact ⟨0, rfl, Nat.zero_le _, ⟨Nat.le_refl _⟩, ⟨FX HF2.out⟩, ⟨rfl⟩⟩
   case round =>
    clear b3 hbv
    obtain ⟨k, rfl, hk, HM, HFW, HNB⟩ := hrel
    have HFB := AsM (HFW.out.blk HB1.out (by simp))
    have HFG := AsM (HFW.out.blk (HF1.out.blk HB.out (by simp)) (by simp))
    have f0 : wr.cell? ⟨g, 0, none⟩ = some (.slice A0 nn c0) := blk_cell HFG.out 0
    have f11 : wr.cell? ⟨g, 11, none⟩ = some (.map (some m)) := blk_cell HFG.out 11
    by_cases hkl : k < l3.length
    ·have n3 : decide (k < l3.length) = true := by simpa using hkl
     obtain ⟨ad, B0, d0, rfl, h1, h2, h3⟩ := at_L3 (Kd.C_below H3.out (HF1.out.trans HFW.out (by simp)).below) (k : Int) (by omega) (by omega)
     simp only [rd_L3, Int.toNat_natCast] at h1 h2 h3
     obtain ⟨xs, hxs⟩ : ∃ xs, l3.getD k [] = xs := ⟨_, rfl⟩
     rw [hxs] at h1 h2 h3
     have hxm : l3[k]? = some xs := by rw [List.getD_eq_getElem?_getD, List.getElem?_eq_getElem hkl] at hxs; rw [List.getElem?_eq_getElem hkl]; simpa using hxs
     have HXM := AsM hxm
     have HX3 := AsM h3
     clear h3 hxs hxm
     have H22 : Aside0 (∀ b, xs.any cellBad = b → Calls Tryz.prog 52 #[.slice B0 xs.length d0, .func (Fn.func 53) #[] #[]] wr fun e w' => e = .returned (.bool b) ∧ Fr wr w' []) := ⟨fun b h => containsC_calls B0 d0 xs wr HX3.out h2 b h⟩
     by_cases hn : xs.length = nn
     ·have n7 : ((xs.length : Int) != (nn : Int)) = false := by rw [bne_eq_false_iff_eq]; omega
      obtain ⟨an, han⟩ : ∃ x, xs.any cellBad = x := ⟨_, rfl⟩
      have HAN := AsM han
      have HRB : Aside0 (rowBad nn xs = an) := ⟨by unfold rowBad; simp [hn, han]⟩
      clear han hn
      cases an
      ·go_wp2_with (first | (go_at_call 52; (refine (H22.out _ HAN.out).mono ?_); rintro e w' ⟨rfl, hF9⟩; have HF9 := AsM (HFW.out.trans hF9 (by simp)); clear hF9))
       go_roundg (l3.length - (k + 1))
       case measure => have := HM.out; omega
       case rel => exact ⟨k + 1, by go_num, by omega, ⟨Nat.le_refl _⟩, ⟨FX HF9.out⟩, ⟨by rw [List.take_add_one, HXM.out, List.any_append, HNB.out]; simp [HRB.out]⟩⟩
      ·obtain rfl : false = R := by rw [← HR2.out, if_pos (List.any_eq_true.2 ⟨xs, List.mem_of_getElem? HXM.out, HRB.out⟩)]
       go_wp2_with (first | (go_at_call 52; (refine (H22.out _ HAN.out).mono ?_); rintro e w' ⟨rfl, hF9⟩; have HF9 := AsM (HFW.out.trans hF9 (by simp)); clear hF9))
       go_ret
       exact ⟨rfl, HF1.out.trans (FX HF9.out) (by simp)⟩
     ·have n7 : ((xs.length : Int) != (nn : Int)) = true := by rw [bne_iff_ne]; exact fun h9 => hn (by omega)
      obtain rfl : false = R := by rw [← HR2.out, if_pos (List.any_eq_true.2 ⟨xs, List.mem_of_getElem? HXM.out, by unfold rowBad; simp [hn]⟩)]
      clear hn
      go_wp2
      go_ret
      exact ⟨rfl, HF1.out.trans (FX HFW.out) (by simp)⟩
    ·obtain rfl : k = l3.length := by omega
     have n3 : decide (l3.length < l3.length) = false := by simp
     have hr3 := HR2.out
     have hnb := HNB.out
     rw [List.take_length] at hnb
     rw [if_neg (by rw [hnb]; decide)] at hr3
     have b4 := blk_cell HFB.out 4
     have b5 := blk_cell HFB.out 5
     have b0 := blk_cell HFB.out 0
     have hbv := blk_lt HFB.out
     by_cases h40 : a4 = 0
     ·have n8 : (a4 == 0) = true := by simpa using h40
      rw [if_pos h40] at hr3
      have n9 : (a5 == 0) = R := by rw [← hr3]; by_cases h : a5 = 0 <;> simp [h]
      clear hr3 hnb h40
      go_wp2
      go_ret
      exact ⟨rfl, HF1.out.trans (FX HFW.out) (by simp)⟩
     ·have n8 : (a4 == 0) = false := by simpa using h40
      rw [if_neg h40] at hr3
      have HR3 := AsM hr3
      obtain ⟨xv, hlk⟩ := lookI_run (w := wr.drew) a5 (HFW.out.blk (HF1.out.blk HMP.out (by simp)) (by simp))
      rw [HSG.out] at hlk
      clear hr3 hnb h40
      go_upto_region 20 with fail
      go_region
      go_upto_region 21 with fail
      have hr4 := HR3.out
      have hqq : decide (a5 = a0 - 1) = (a5 == a0 - 1) := by by_cases h : a5 = a0 - 1 <;> simp [h]
      rw [hqq] at hr4
      obtain ⟨q1, hq1⟩ : ∃ x, decide (0 < a4) = x := ⟨_, rfl⟩
      obtain ⟨q2, hq2⟩ : ∃ x, decide (a4 ≤ 3) = x := ⟨_, rfl⟩
      obtain ⟨q3, hq3⟩ : ∃ x, decide (1 ≤ a0) = x := ⟨_, rfl⟩
      obtain ⟨q4, hq4⟩ : ∃ x, (a5 == a0 - 1) = x := ⟨_, rfl⟩
      obtain ⟨sg, hsg⟩ : ∃ x, segB days a5 = x := ⟨_, rfl⟩
      rw [hq1, hq2, hq3, hq4, hsg] at hr4
      rw [hsg]
      clear HR3 hqq hlk hsg
      subst hr4
      have n10 : IntKind.i64.wrap (a0 - 1) = a0 - 1 := by rw [i64_w]; unfold wrap64; omega
      rename_i r1 r2 r3 r4 r5
      clear r3 r4
      have hcs : q1 = false ∨ (q1 = true ∧ q2 = false) ∨ (q1 = true ∧ q2 = true ∧ q3 = false) ∨ (q1 = true ∧ q2 = true ∧ q3 = true ∧ q4 = false) ∨ (q1 = true ∧ q2 = true ∧ q3 = true ∧ q4 = true) := by cases q1 <;> cases q2 <;> cases q3 <;> cases q4 <;> decide
      rcases hcs with rfl | ⟨rfl, rfl⟩ | ⟨rfl, rfl, rfl⟩ | ⟨rfl, rfl, rfl, rfl⟩ | ⟨rfl, rfl, rfl, rfl⟩
      all_goals (
       go_wp2
       go_ret
       exact ⟨by simp, HF1.out.trans (M := []) (FX HFW.out) (by simp)⟩)
theorem may_calls (g nn : Nat) (hor cel slo sta pst pfu pba : Int) (days : List S54) (a0 a1 : Int) (A2 : Option Addr) (c2 : Nat) (l2 : List Int) (A3 : Option Addr) (c3 : Nat) (l3 : List (List S45)) (a4 a5 : Int) (w : World) (hm : Mach w g nn hor cel slo sta pst pfu pba days) (hh : 0 ≤ hor ∧ hor ≤ 100000) (hdn : days.length ≤ 1000000) (hdl : ∀ s ∈ days, s.f1.length ≤ 1000000)
  (hr2 : Kd.C (Kd.int .i64) w A2 l2.length l2) (hc2 : l2.length ≤ c2) (hr3 : Kd.C (Kd.slice 45 k45) w A3 l3.length l3) (hc3 : l3.length ≤ c3) :
  Calls Tryz.prog 33 #[.pointer (some ⟨g, 0, none⟩), .agg #[.int .i64 a0, .int .i64 a1, .slice A2 l2.length c2, .slice A3 l3.length c3, .int .i64 a4, .int .i64 a5]] w (MayPost (mayB nn hor cel pba days a0 a1 l2 l3 a4 a5) w) := by
 by_cases hc : a0 < 0 ∨ hor + 1 < a0 ∨ a1 < 0 ∨ (l2.length : Int) ≠ cel ∨ (l3.length : Int) ≠ if pba < a0 then pba else a0
 ·rw [show mayB nn hor cel pba days a0 a1 l2 l3 a4 a5 = false by unfold mayB; rw [if_pos hc]]
  exact may_early g nn hor cel slo sta pst pfu pba days a0 a1 A2 c2 l2 A3 c3 l3 a4 a5 w hm hh hc
 ·exact may_rest g nn hor cel slo sta pst pfu pba days a0 a1 A2 c2 l2 A3 c3 l3 a4 a5 w hm hh hdn hdl hr2 hc2 hr3 hc3 hc
theorem lists_facts {names curs : List ByteArray} {pool : List Int} {hor cel slo sta : Int} (h : listsB names curs pool hor cel slo sta = true) : names.length ≤ 64 ∧ curs.length ≤ 4096 ∧ pool.length ≤ 16384 ∧ 0 ≤ hor ∧ hor ≤ 3660 ∧ 0 ≤ cel ∧ cel ≤ 32768 ∧ 0 ≤ slo ∧ slo ≤ 16384 := by
 simp only [listsB, withinB, Bool.and_eq_true, Bool.not_eq_true', decide_eq_false_iff_not, decide_eq_true_eq] at h
 omega
theorem ver0 {names curs : List ByteArray} {pool : List Int} {hor cel slo sta : Int} {days : List S54} (h : (verifyP names curs pool hor cel slo sta days).1.1 = 0) : listsB names curs pool hor cel slo sta = true ∧ days.length ≤ 1000000 ∧ ∀ s ∈ days, DayOk s := by
 unfold verifyP at h
 by_cases hc : canonP names curs pool hor cel slo sta days = 0
 ·exact canonP_ok hc
 ·rw [if_pos hc] at h
  exact absurd h hc
def validP (names curs : List ByteArray) (pool : List Int) (hor cel slo sta : Int) (days : List S54) (a0 a1 : Int) (l2 : List Int) (l3 : List (List S45)) (a4 a5 : Int) : Int :=
 if (verifyP names curs pool hor cel slo sta days).1.1 ≠ 0 then (verifyP names curs pool hor cel slo sta days).1.1 else
 if mayB names.length hor cel (verifyP names curs pool hor cel slo sta days).2.back days a0 a1 l2 l3 a4 a5 = true then 0 else 5
theorem may_small {nn : Nat} {hor cel pba : Int} {days : List S54} {a0 a1 : Int} {l2 : List Int} {l3 : List (List S45)} {a4 a5 : Int} (h : mayB nn hor cel pba days a0 a1 l2 l3 a4 a5 = true) : (l2.length : Int) = cel ∧ (l3.length : Int) ≤ hor + 1 ∧ ∀ r ∈ l3, r.length = nn := by
 unfold mayB at h
 by_cases h1 : a0 < 0 ∨ hor + 1 < a0 ∨ a1 < 0 ∨ (l2.length : Int) ≠ cel ∨ (l3.length : Int) ≠ if pba < a0 then pba else a0
 ·rw [if_pos h1] at h; cases h
 rw [if_neg h1] at h
 by_cases h2 : (sumB a0 days : Int) < a1 ∨ (a0 = 0 ∧ l2.any (fun s => !(decide (s = 0))) = true)
 ·rw [if_pos h2] at h; cases h
 rw [if_neg h2] at h
 by_cases h3 : l3.any (rowBad nn) = true
 ·rw [if_pos h3] at h; cases h
 have hm : (if pba < a0 then pba else a0) ≤ a0 := by split <;> omega
 generalize (if pba < a0 then pba else a0) = mn at h1 hm
 refine ⟨by omega, by omega, fun r hr => ?_⟩
 have h4 : rowBad nn r = false := by
  cases hb : rowBad nn r
  ·rfl
  ·exact absurd (List.any_eq_true.2 ⟨r, hr, hb⟩) h3
 simp only [rowBad, Bool.or_eq_false_iff, Bool.not_eq_false', decide_eq_true_eq] at h4
 exact h4.1
def ResPost (r : Int) (w : World) (e : Ending) (w' : World) : Prop := Fr w w' [] ∧ ∃ pv, e = .returned (.tuple #[pv, .int .i64 r])
theorem resume_calls (A0 : Option Addr) (c0 : Nat) (names : List ByteArray) (A1 : Option Addr) (c1 : Nat) (curs : List ByteArray) (A2 : Option Addr) (c2 : Nat) (pool : List Int) (hor cel slo sta : Int) (A7 : Option Addr) (c7 : Nat) (days : List S54) (a0 a1 : Int) (B2 : Option Addr) (d2 : Nat) (l2 : List Int) (B3 : Option Addr) (d3 : Nat) (l3 : List (List S45)) (a4 a5 : Int) (w : World) (hr0 : Kd.C Kd.string w A0 names.length names) (hc0 : names.length ≤ c0) (hr1 : Kd.C Kd.string w A1 curs.length curs) (hc1 : curs.length ≤ c1) (hr2 : Kd.C (Kd.int .i64) w A2 pool.length pool) (hc2 : pool.length ≤ c2) (hr7 : Kd.C k54 w A7 days.length days) (hc7 : days.length ≤ c7)
  (hs2 : Kd.C (Kd.int .i64) w B2 l2.length l2) (hd2 : l2.length ≤ d2) (hs3 : Kd.C (Kd.slice 45 k45) w B3 l3.length l3) (hd3 : l3.length ≤ d3) (hpl : pool.length ≤ 100000000000000) (hdl : ∀ s ∈ days, s.f1.length ≤ 10000000000000) (G : TabW w) :
  Calls Tryz.prog 18 #[.agg #[.slice A0 names.length c0, .slice A1 curs.length c1, .slice A2 pool.length c2, .int .i64 hor, .int .i64 cel, .int .i64 slo, .int .i64 sta, .slice A7 days.length c7], .agg #[.int .i64 a0, .int .i64 a1, .slice B2 l2.length d2, .slice B3 l3.length d3, .int .i64 a4, .int .i64 a5]] w (ResPost (validP names curs pool hor cel slo sta days a0 a1 l2 l3 a4 a5) w) := by
 obtain ⟨R, hR⟩ : ∃ x, verifyP names curs pool hor cel slo sta days = x := ⟨_, rfl⟩
 have hv0 := fun h => ver0 (names := names) (curs := curs) (pool := pool) (hor := hor) (cel := cel) (slo := slo) (sta := sta) (days := days) h
 have CM : Aside0 (∀ W, Fr w W [] → Calls Tryz.prog 32 #[.agg #[.slice A0 names.length c0, .slice A1 curs.length c1, .slice A2 pool.length c2, .int .i64 hor, .int .i64 cel, .int .i64 slo, .int .i64 sta, .slice A7 days.length c7]] W (MadePost R names.length hor cel slo sta days W)) := ⟨fun W h => hR ▸ made_calls A0 c0 names A1 c1 curs A2 c2 pool hor cel slo sta A7 c7 days W (Kd.C_below hr0 h.below) hc0 (Kd.C_below hr1 h.below) hc1 (Kd.C_below hr2 h.below) hc2 (Kd.C_below hr7 h.below) hc7 hpl hdl (fun h0 => by
  obtain ⟨h1, h2, h3⟩ := hv0 h0
  have := lists_facts h1
  exact ⟨by omega, by omega, by omega, fun s hs => Nat.le_trans (h3 s hs).2.1 (by omega), by omega⟩) (G.fr0 h)⟩
 obtain ⟨V, hV⟩ : ∃ x, validP names curs pool hor cel slo sta days a0 a1 l2 l3 a4 a5 = x := ⟨_, rfl⟩
 rw [hV]
 unfold validP at hV
 rw [hR] at hV hv0
 obtain ⟨⟨err, dd, kk⟩, acc⟩ := R
 simp only at hV hv0
 have HS2 := AsM hs2
 have HS3 := AsM hs3
 clear hr0 hr1 hr2 hr7 G hdl hpl hR hs2 hs3
 have hup := Tryz.underlying26
 have hus := Tryz.underlying30
 by_cases hz : err = 0
 case neg =>
  rw [if_pos hz] at hV
  subst hV
  have hz1 : (err == 0) = false := by simpa using hz
  have hz2 : (err != 0) = true := by simpa using hz
  clear hz hv0
  have CM2 : Aside0 (∀ W, Fr w W [] → Calls Tryz.prog 32 #[.agg #[.slice A0 names.length c0, .slice A1 curs.length c1, .slice A2 pool.length c2, .int .i64 hor, .int .i64 cel, .int .i64 slo, .int .i64 sta, .slice A7 days.length c7]] W fun e W' => ∃ pv, e = .returned (.tuple #[pv, .int .i64 err]) ∧ Fr W W' []) := ⟨fun W h => (CM.out W h).mono fun e W' ⟨hf, pv, he, _⟩ => ⟨pv, he, hf⟩⟩
  clear CM
  go_enter Tryz.func18, Tryz.ntmps18
  go_wp2_with (first | (go_at_call 32; (with_reducible refine (CM2.out _ ?_).mono ?_); (next => exact FQ); rintro e W1 ⟨pv, rfl, hF1⟩; have HF1 : Aside0 (Fr w W1 []) := ⟨Fr.trans (M := []) FQ hF1 (by simp)⟩; clear hF1))
  go_ret2
  exact ⟨FX HF1.out, _, rfl⟩
 case pos =>
  subst hz
  rw [if_neg (fun h => h rfl)] at hV
  obtain ⟨hli, hdn, hdo⟩ := hv0 rfl
  have hlf := lists_facts hli
  obtain ⟨mb, hmb⟩ : ∃ x, mayB names.length hor cel acc.back days a0 a1 l2 l3 a4 a5 = x := ⟨_, rfl⟩
  rw [hmb] at hV
  have HDO := AsM hdo
  have HLF := AsM hlf
  have HSM : Aside0 (mb = true → l2.length ≤ 1000000000000 ∧ l3.length ≤ 1000000 ∧ ∀ s ∈ l3, s.length ≤ 1000000000) := ⟨fun h => by
   obtain ⟨h1, h2, h3⟩ := may_small (hmb.trans h)
   exact ⟨by omega, by omega, fun s hs => by rw [h3 s hs]; omega⟩⟩
  have CMY : Aside0 (∀ W g, Fr w W [] → Mach W g names.length hor cel slo sta acc.stack acc.fuel acc.back days → Calls Tryz.prog 33 #[.pointer (some ⟨g, 0, none⟩), .agg #[.int .i64 a0, .int .i64 a1, .slice B2 l2.length d2, .slice B3 l3.length d3, .int .i64 a4, .int .i64 a5]] W (MayPost mb W)) := ⟨fun W g h hm => hmb ▸ may_calls g names.length hor cel slo sta acc.stack acc.fuel acc.back days a0 a1 B2 d2 l2 B3 d3 l3 a4 a5 W hm ⟨by omega, by omega⟩ hdn (fun s hs => (HDO.out s hs).2.1) (Kd.C_below HS2.out h.below) hd2 (Kd.C_below HS3.out h.below) hd3⟩
  have CM2 : Aside0 (∀ W, Fr w W [] → Calls Tryz.prog 32 #[.agg #[.slice A0 names.length c0, .slice A1 curs.length c1, .slice A2 pool.length c2, .int .i64 hor, .int .i64 cel, .int .i64 slo, .int .i64 sta, .slice A7 days.length c7]] W fun e W' => ∃ g, e = .returned (.tuple #[.pointer (some ⟨g, 0, none⟩), .int .i64 0]) ∧ Fr W W' [] ∧ W.heap.size ≤ g ∧ Mach W' g names.length hor cel slo sta acc.stack acc.fuel acc.back days) := ⟨fun W h => (CM.out W h).mono fun e W' ⟨hf, pv, he, hm⟩ => by
   obtain ⟨g, h1, h2, h3⟩ := hm rfl
   exact ⟨g, by rw [he, h1], hf, h2, h3⟩⟩
  clear CM hmb hli hdo hlf hv0
  go_enter Tryz.func18, Tryz.ntmps18
  go_upto_region 4 with (first | (go_at_call 32; (with_reducible refine (CM2.out _ ?_).mono ?_); (next => exact FQ); rintro e W1 ⟨g, rfl, hF1, hg1, hM1⟩; have HX1 := AsM (hF1.blk (g := w.heap.size + 1) (blk_newN (by simp)) (by simp)); have HF1 : Aside0 (Fr w W1 []) := ⟨Fr.trans (M := []) FQ hF1 (by simp)⟩; have HM1 := AsM hM1; have hxl := blk_lt HX1.out; obtain ⟨x0, x1, x2, x3, x4, x5⟩ := cc6 HX1.out; clear hF1 hM1))
  have hgw : w.heap.size + 1 + 1 ≤ g := by simpa using hg1
  clear hg1
  cases mb
  case false =>
   obtain rfl : 5 = V := by simpa using hV
   go_wp2_with (first | (go_at_call 33; (with_reducible refine (CMY.out _ _ HF1.out HM1.out).mono ?_); rintro e W2 ⟨rfl, hF2⟩; have HF2 := AsM (HF1.out.trans hF2 (by simp)); clear hF2))
   go_ret2
   exact ⟨FX HF2.out, _, rfl⟩
  case true =>
   obtain rfl : 0 = V := by simpa using hV
   obtain ⟨k2, k3, k4⟩ := HSM.out rfl
   have CP : Aside0 (∀ W, Fr w W [] → Calls Tryz.prog 34 #[.agg #[.int .i64 a0, .int .i64 a1, .slice B2 l2.length d2, .slice B3 l3.length d3, .int .i64 a4, .int .i64 a5]] W (CopyPost W)) := ⟨fun W h => copied_calls a0 a1 B2 d2 l2 B3 d3 l3 a4 a5 W (Kd.C_below HS2.out h.below) hd2 k2 (Kd.C_below HS3.out h.below) hd3 k3 k4⟩
   clear k4
   obtain ⟨E0, e0, y1, y2, E7, e7, m, es, clk, hb, _, _, _⟩ := HM1.out
   have HBG := AsM hb
   clear hb
   go_wp2_with (first | (go_at_call 33; (with_reducible refine (CMY.out _ _ HF1.out HM1.out).mono ?_); rintro e W2 ⟨rfl, hF2⟩; have HF2 := AsM (HF1.out.trans hF2 (by simp)); have HX2 := AsM (hF2.blk HX1.out (by simp)); have HB2 := AsM (hF2.blk HBG.out (by simp)); obtain ⟨u0, u1, u2, u3, u4, u5⟩ := cc6 HX2.out; clear hF2) | (go_at_call 34; (with_reducible refine (CP.out _ HF2.out).mono ?_); rintro e W3 ⟨p0, p1, P2, pn2, pc2, P3, pn3, pc3, p4, p5, rfl, hF3⟩; have HF3 := AsM (HF2.out.trans hF3 (by simp)); have HB3 := AsM (hF3.blk HB2.out (by simp)); have hgl := blk_lt HB3.out; have v12 : W3.cell? ⟨g, 12, none⟩ = some (.int .i64 0) := blk_cell HB3.out 12; have v13 : W3.cell? ⟨g, 13, none⟩ = some (.int .i64 0) := blk_cell HB3.out 13; have v14 : W3.cell? ⟨g, 14, none⟩ = some (.slice none 0 0) := blk_cell HB3.out 14; have v15 : W3.cell? ⟨g, 15, none⟩ = some (.slice none 0 0) := blk_cell HB3.out 15; have v16 : W3.cell? ⟨g, 16, none⟩ = some (.int .i64 0) := blk_cell HB3.out 16; have v17 : W3.cell? ⟨g, 17, none⟩ = some (.int .i64 0) := blk_cell HB3.out 17; have z12 := blk_frozen HB3.out 12; have z13 := blk_frozen HB3.out 13; have z14 := blk_frozen HB3.out 14; have z15 := blk_frozen HB3.out 15; have z16 := blk_frozen HB3.out 16; have z17 := blk_frozen HB3.out 17; clear hF3))
   go_ret2
   exact ⟨by (with_reducible (repeat (first | exact Fr.refl _ _ | refine Fr.drew ?_ | refine Fr.drewN ?_ _ | refine Fr.alloc ?_ _ | refine Fr.setCell ?_ _ _ ?_))) <;> first | exact HF3.out | exact .inr (by simp; omega), _, rfl⟩
def SvPost (r : Int) (w : World) (e : Ending) (w' : World) : Prop := e = .returned (.int .i64 r) ∧ Fr w w' []
theorem sValid_calls (A0 : Option Addr) (c0 : Nat) (names : List ByteArray) (A1 : Option Addr) (c1 : Nat) (curs : List ByteArray) (A2 : Option Addr) (c2 : Nat) (pool : List Int) (hor cel slo sta : Int) (A7 : Option Addr) (c7 : Nat) (days : List S54) (a0 a1 : Int) (B2 : Option Addr) (d2 : Nat) (l2 : List Int) (B3 : Option Addr) (d3 : Nat) (l3 : List (List S45)) (a4 a5 : Int) (w : World) (hr0 : Kd.C Kd.string w A0 names.length names) (hc0 : names.length ≤ c0) (hr1 : Kd.C Kd.string w A1 curs.length curs) (hc1 : curs.length ≤ c1) (hr2 : Kd.C (Kd.int .i64) w A2 pool.length pool) (hc2 : pool.length ≤ c2) (hr7 : Kd.C k54 w A7 days.length days) (hc7 : days.length ≤ c7)
  (hs2 : Kd.C (Kd.int .i64) w B2 l2.length l2) (hd2 : l2.length ≤ d2) (hs3 : Kd.C (Kd.slice 45 k45) w B3 l3.length l3) (hd3 : l3.length ≤ d3) (hpl : pool.length ≤ 100000000000000) (hdl : ∀ s ∈ days, s.f1.length ≤ 10000000000000) (G : TabW w) :
  Calls Tryz.prog 9 #[.agg #[.slice A0 names.length c0, .slice A1 curs.length c1, .slice A2 pool.length c2, .int .i64 hor, .int .i64 cel, .int .i64 slo, .int .i64 sta, .slice A7 days.length c7], .agg #[.int .i64 a0, .int .i64 a1, .slice B2 l2.length d2, .slice B3 l3.length d3, .int .i64 a4, .int .i64 a5]] w (SvPost (validP names curs pool hor cel slo sta days a0 a1 l2 l3 a4 a5) w) := by
 obtain ⟨V, hV⟩ : ∃ x, validP names curs pool hor cel slo sta days a0 a1 l2 l3 a4 a5 = x := ⟨_, rfl⟩
 rw [hV]
 have CR : Aside0 (∀ W, Fr w W [] → Calls Tryz.prog 18 #[.agg #[.slice A0 names.length c0, .slice A1 curs.length c1, .slice A2 pool.length c2, .int .i64 hor, .int .i64 cel, .int .i64 slo, .int .i64 sta, .slice A7 days.length c7], .agg #[.int .i64 a0, .int .i64 a1, .slice B2 l2.length d2, .slice B3 l3.length d3, .int .i64 a4, .int .i64 a5]] W (ResPost V W)) := ⟨fun W h => hV ▸ resume_calls A0 c0 names A1 c1 curs A2 c2 pool hor cel slo sta A7 c7 days a0 a1 B2 d2 l2 B3 d3 l3 a4 a5 W (Kd.C_below hr0 h.below) hc0 (Kd.C_below hr1 h.below) hc1 (Kd.C_below hr2 h.below) hc2 (Kd.C_below hr7 h.below) hc7 (Kd.C_below hs2 h.below) hd2 (Kd.C_below hs3 h.below) hd3 hpl hdl (G.fr0 h)⟩
 clear hr0 hr1 hr2 hr7 hs2 hs3 hdl hpl G hV
 have hup := Tryz.underlying26
 have hus := Tryz.underlying30
 go_enter Tryz.func9, Tryz.ntmps9
 go_wp2_with (first | (go_at_call 18; (with_reducible refine (CR.out _ ?_).mono ?_); (next => exact FQ); rintro e W1 ⟨hF1, pv, rfl⟩; have HF1 : Aside0 (Fr w W1 []) := ⟨Fr.trans (M := []) FQ hF1 (by simp)⟩; clear hF1))
 go_ret
 exact ⟨rfl, FX HF1.out⟩
theorem Prg.Lies.fr {p : Prg} {w w' : World} {A0 A1 A2 A7 : Option Addr} (h : p.Lies w A0 A1 A2 A7) (hf : Fr w w' []) : p.Lies w' A0 A1 A2 A7 := ⟨Kd.C_below h.names hf.below, Kd.C_below h.curs hf.below, Kd.C_below h.pool hf.below, Kd.C_below h.days hf.below⟩
theorem rw_at {w : World} {A : Option Addr} {n : Nat} {xs : List (List Cel)} (h : Kd.C (Kd.slice 45 k45) w A n xs) (k : Nat) (hk : k < n) : ∃ ad A0 c0, A = some ad ∧ w.cell? (ad.add k) = some (.slice A0 (xs.getD k []).length c0) ∧ Kd.C k45 w A0 (xs.getD k []).length (xs.getD k []) := by
 obtain ⟨ad, A0, c0, e, h1, _, h3⟩ := at_L3 h (k : Int) (by omega) (by omega)
 simp only [rd_L3, Int.toNat_natCast] at h1 h3
 exact ⟨ad, A0, c0, e, h1, h3⟩
theorem cl_at {w : World} {A : Option Addr} {n : Nat} {xs : List Cel} (h : Kd.C k45 w A n xs) (k : Nat) (hk : k < n) : ∃ ad, A = some ad ∧ w.cell? (ad.add (k * 2)) = some (.bool (xs.getD k z45).f0) ∧ w.cell? ⟨(ad.add (k * 2)).block, (ad.add (k * 2)).off + 1, none⟩ = some (.int .i64 (xs.getD k z45).f1) := by
 obtain ⟨ad, e, h0, h1⟩ := at_T45 h (k : Int) (by omega) (by omega)
 simp only [rd_T45, Int.toNat_natCast] at h0 h1
 exact ⟨ad, e, h0, h1⟩
def savedL (P : Prg) (s : Stt) : List Int := sealL (sB ⟨#[80, 65, 89, 83, 65, 86, 69, 49]⟩) (s.secs P.mark)
def savedR (P : Prg) (s : Stt) : List Int × Int := if 4194304 < (savedL P s).length then ([], 6) else (savedL P s, 0)
def SavePost (r : List Int × Int) (w : World) (e : Ending) (w' : World) : Prop := ∃ v, e = .returned (.tuple #[v, .int .i64 r.2]) ∧ Buf True w' w.heap.size v r.1 ∧ Fr w w' []
theorem sEncode_ok (P : Prg) (s : Stt) (hp : P.Ok) (hs : s.Ok) (A0 : Option Addr) (c0 : Nat) (A1 : Option Addr) (c1 : Nat) (A2 : Option Addr) (c2 : Nat) (A7 : Option Addr) (c7 : Nat) (B2 : Option Addr) (d2 : Nat) (B3 : Option Addr) (d3 : Nat) (w : World) (G : TabW w) (hl : P.Lies w A0 A1 A2 A7) (hl2 : Kd.C (Kd.int .i64) w B2 s.l2.length s.l2) (hl3 : Kd.C (Kd.slice 45 k45) w B3 s.l3.length s.l3)
  (hval : ∀ W, Fr w W [] → Calls Tryz.prog 9 #[.agg #[.slice A0 P.names.length c0, .slice A1 P.curs.length c1, .slice A2 P.pool.length c2, .int .i64 P.hor, .int .i64 P.cel, .int .i64 P.slo, .int .i64 P.sta, .slice A7 P.days.length c7], .agg #[.int .i64 s.n0, .int .i64 s.n1, .slice B2 s.l2.length d2, .slice B3 s.l3.length d3, .int .i64 s.n4, .int .i64 s.n5]] W fun e w' => e = .returned (.int .i64 0) ∧ Fr W w' [])
  (hcan : ∀ W, Fr w W [] → Calls Tryz.prog 38 #[.agg #[.slice A0 P.names.length c0, .slice A1 P.curs.length c1, .slice A2 P.pool.length c2, .int .i64 P.hor, .int .i64 P.cel, .int .i64 P.slo, .int .i64 P.sta, .slice A7 P.days.length c7]] W fun e w' => e = .returned (.int .i64 0) ∧ Fr W w' []) :
  Calls Tryz.prog 5 #[.agg #[.slice A0 P.names.length c0, .slice A1 P.curs.length c1, .slice A2 P.pool.length c2, .int .i64 P.hor, .int .i64 P.cel, .int .i64 P.slo, .int .i64 P.sta, .slice A7 P.days.length c7], .agg #[.int .i64 s.n0, .int .i64 s.n1, .slice B2 s.l2.length d2, .slice B3 s.l3.length d3, .int .i64 s.n4, .int .i64 s.n5]] w (SavePost (savedR P s) w) := by
 have CV := AsM hval
 have CP : Aside0 (∀ W, Fr w W [] → Calls Tryz.prog 14 #[.agg #[.slice A0 P.names.length c0, .slice A1 P.curs.length c1, .slice A2 P.pool.length c2, .int .i64 P.hor, .int .i64 P.cel, .int .i64 P.slo, .int .i64 P.sta, .slice A7 P.days.length c7]] W fun e w' => ∃ A c q, q = P.mark ∧ e = .returned (.slice A q.length c) ∧ Sl w' A c q ∧ Fr W w' []) := ⟨fun W h => program_calls P _ _ _ _ _ _ _ _ W (fun W2 h2 => iEncode_calls P hp A0 c0 A1 c1 A2 c2 A7 c7 W2 (G.fr0 (h.tr h2)) (hl.fr (h.tr h2)) (fun W3 h3 => hcan W3 ((h.tr h2).tr h3)))⟩
 have HS := AsM hs
 have H2 := AsM hl2
 have H3 := AsM hl3
 have m2 := hs.l2
 have m3 := hs.l3
 have g0 := hs.h0
 have g1 := hs.h1
 have g4 := hs.h4
 have g5 := hs.h5
 have hut := Tryz.underlying30
 have hup := Tryz.underlying26
 have CU : Aside0 (∀ b W v q (x : Nat), Buf False W b v q → b ≤ W.heap.size → x < 18446744073709551616 → q.length ≤ 130000000000000 → Calls Tryz.prog 10 #[v, .int .u64 ((x : Nat) : Int)] W (BufP False b W v (q ++ uvar x))) := ⟨fun b W v l x h1 h2 h3 h4 => oUint_C x h3 h4 h1 h2⟩
 have CI : Aside0 (∀ b W v q (x : Int), Buf False W b v q → b ≤ W.heap.size → (-9223372036854775808 ≤ x ∧ x < 9223372036854775808) → q.length ≤ 130000000000000 → Calls Tryz.prog 11 #[v, .int .i64 x] W (BufP False b W v (q ++ zigL x))) := ⟨fun b W v l x h1 h2 h3 h4 => oAppendInt_calls False b W v l h1 h2 h3 h4⟩
 have CC : Aside0 (∀ b W v q (h : Bool) (x : Int), Buf False W b v q → b ≤ W.heap.size → (-9223372036854775808 ≤ x ∧ x < 9223372036854775808) → q.length ≤ 120000000000000 → Calls Tryz.prog 12 #[v, .agg #[.bool h, .int .i64 x]] W (BufP False b W v (q ++ cellL h x))) := ⟨fun b W v l h x h1 h2 h3 h4 => cell_calls False b W v l h1 h2 h x h3 h4⟩
 clear hval hcan G hl hl2 hl3 hs hp
 go_enter Tryz.func5, Tryz.ntmps5
 go_upto_region 4 with (first
  | (go_at_call 9; ((with_reducible refine (CV.out _ ?_).mono ?_); (next => exact FQ); rintro e W1 ⟨rfl, hF⟩; have HK1 := AsM (hF.blk (g := w.heap.size) (o := .cells #[.slice A0 P.names.length c0, .slice A1 P.curs.length c1, .slice A2 P.pool.length c2, .int .i64 P.hor, .int .i64 P.cel, .int .i64 P.slo, .int .i64 P.sta, .slice A7 P.days.length c7] 26 (0, 0)) (blk_alloc (blk_newN rfl) _) (by simp)); have HS1 := AsM (hF.blk (g := w.heap.size + 1) (o := .cells #[.int .i64 s.n0, .int .i64 s.n1, .slice B2 s.l2.length d2, .slice B3 s.l3.length d3, .int .i64 s.n4, .int .i64 s.n5] 30 (0, 0)) (blk_newN (by simp)) (by simp)); have HF1 : Aside0 (Fr w W1 []) := ⟨Fr.trans (L := []) (M := []) FQ hF (by simp)⟩; clear hF)))
 obtain ⟨sb, hsb⟩ : ∃ sb, w.heap.size + 1 = sb := ⟨_, rfl⟩
 obtain ⟨pb, hpb⟩ : ∃ pb, w.heap.size = pb := ⟨_, rfl⟩
 rw [hsb] at HS1 ⊢
 rw [hpb] at HK1 ⊢
 obtain ⟨t0, t1⟩ := cc2 HS1.out
 have t4 := blk_cell HS1.out 4
 have t5 := blk_cell HS1.out 5
 have hlt := blk_lt HS1.out
 go_wp2
 clear t0 t1 t4 t5 hlt
 obtain ⟨ab, hab⟩ : ∃ ab, W1.heap.size = ab := ⟨_, rfl⟩
 obtain ⟨V1, hV1⟩ : ∃ V1, W1.alloc (.cells #[.int .i64 s.n0, .int .i64 s.n1, .int .i64 s.n4, .int .i64 s.n5] 3) = V1 := ⟨_, rfl⟩
 have hF11 : Fr W1 V1 [] := hV1 ▸ (Fr.refl W1 []).alloc _
 have HA1 : Aside0 (V1.heap[ab]? = some (.cells #[.int .i64 s.n0, .int .i64 s.n1, .int .i64 s.n4, .int .i64 s.n5] 3 (0, 0))) := ⟨hab ▸ hV1 ▸ blk_newN rfl⟩
 have HFV1 : Aside0 (Fr w V1 []) := ⟨HF1.out.tr hF11⟩
 have HKV1 := AsM (hF11.bl HK1.out)
 have HSV1 := AsM (hF11.bl HS1.out)
 rw [hab, hV1]
 clear hF11 HK1 HS1 HF1 hV1 hab
 go_loopg [7, 36] 4 (fun kq s7 s36 w3 => ∃ k : Nat, s36 = .int .i64 k ∧ k ≤ 4 ∧ Aside0 (4 - k ≤ kq) ∧ Aside0 (Fr V1 w3 []) ∧ Aside0 (Buf False w3 V1.heap.size s7 ((s.nums.take k).flatMap uvar)))
 case atStart => exact ⟨0, rfl, by omega, ⟨Nat.le_refl _⟩, ⟨Fr.refl _ _⟩, ⟨Buf.nil _ _ _⟩⟩
 case round =>
  obtain ⟨k, rfl, hk, HMk, HFk, HBk⟩ := hrel
  have hkc : k = 0 ∨ k = 1 ∨ k = 2 ∨ k = 3 ∨ k = 4 := by omega
  rcases hkc with rfl | rfl | rfl | rfl | rfl
  ·have hck := blk_cell (HFk.out.bl HA1.out) 0
   go_wp2_with (first | (go_at_call 10; ((with_reducible refine (CU.out V1.heap.size _ _ _ s.n0 HBk.out HFk.out.size (by omega) (by have := HS.out.two_len 0; omega)).mono ?_); rintro e W4 ⟨v4, rfl, hB4, hG4⟩; have HF4 : Aside0 (Fr V1 W4 []) := ⟨hG4.fr HBk.out HFk.out⟩; have HB4 := AsM hB4; clear hB4 hG4)))
   go_roundg (4 - 1)
   case measure => have := HMk.out; omega
   case rel => exact ⟨1, by first | rfl | go_num, by omega, ⟨by omega⟩, HF4, ⟨by simpa [Stt.nums] using HB4.out⟩⟩
  ·have hck := blk_cell (HFk.out.bl HA1.out) 1
   go_wp2_with (first | (go_at_call 10; ((with_reducible refine (CU.out V1.heap.size _ _ _ s.n1 HBk.out HFk.out.size (by omega) (by have := HS.out.two_len 1; omega)).mono ?_); rintro e W4 ⟨v4, rfl, hB4, hG4⟩; have HF4 : Aside0 (Fr V1 W4 []) := ⟨hG4.fr HBk.out HFk.out⟩; have HB4 := AsM hB4; clear hB4 hG4)))
   go_roundg (4 - 2)
   case measure => have := HMk.out; omega
   case rel => exact ⟨2, by first | rfl | go_num, by omega, ⟨by omega⟩, HF4, ⟨by simpa [Stt.nums] using HB4.out⟩⟩
  ·have hck := blk_cell (HFk.out.bl HA1.out) 2
   go_wp2_with (first | (go_at_call 10; ((with_reducible refine (CU.out V1.heap.size _ _ _ s.n4 HBk.out HFk.out.size (by omega) (by have := HS.out.two_len 2; omega)).mono ?_); rintro e W4 ⟨v4, rfl, hB4, hG4⟩; have HF4 : Aside0 (Fr V1 W4 []) := ⟨hG4.fr HBk.out HFk.out⟩; have HB4 := AsM hB4; clear hB4 hG4)))
   go_roundg (4 - 3)
   case measure => have := HMk.out; omega
   case rel => exact ⟨3, by first | rfl | go_num, by omega, ⟨by omega⟩, HF4, ⟨by simpa [Stt.nums] using HB4.out⟩⟩
  ·have hck := blk_cell (HFk.out.bl HA1.out) 3
   go_wp2_with (first | (go_at_call 10; ((with_reducible refine (CU.out V1.heap.size _ _ _ s.n5 HBk.out HFk.out.size (by omega) (by have := HS.out.two_len 3; omega)).mono ?_); rintro e W4 ⟨v4, rfl, hB4, hG4⟩; have HF4 : Aside0 (Fr V1 W4 []) := ⟨hG4.fr HBk.out HFk.out⟩; have HB4 := AsM hB4; clear hB4 hG4)))
   go_roundg (4 - 4)
   case measure => have := HMk.out; omega
   case rel => exact ⟨4, by first | rfl | go_num, by omega, ⟨by omega⟩, HF4, ⟨by simpa [Stt.nums] using HB4.out⟩⟩
  ·obtain ⟨V2, hV2⟩ : ∃ V2 : World, V2 = wr := ⟨_, rfl⟩
   subst hV2
   have HB7 : Aside0 (Buf False V2 V1.heap.size u7 s.two) := ⟨HBk.out⟩
   have HFV2 : Aside0 (Fr w V2 []) := ⟨HFV1.out.tr HFk.out⟩
   have HKV2 := AsM (HFk.out.bl HKV1.out)
   have HSV2 := AsM (HFk.out.bl HSV1.out)
   have t2 := blk_cell HSV2.out 2
   have hlt := blk_lt HSV2.out
   clear HBk HFk HA1 HFV1 HKV1 HSV1
   go_wp2
   clear t2 hlt
   go_loopg [8, 48] s.l2.length (fun kq s8 s48 w3 => ∃ i : Nat, s48 = .int .i64 i ∧ i ≤ s.l2.length ∧ Aside0 (s.l2.length - i ≤ kq) ∧ Aside0 (Fr V2 w3 []) ∧ Aside0 (Buf False w3 V2.heap.size s8 ((s.l2.take i).flatMap zigL)))
   case atStart => exact ⟨0, rfl, by omega, ⟨Nat.le_refl _⟩, ⟨Fr.refl _ _⟩, ⟨Buf.nil _ _ _⟩⟩
   case round =>
    obtain ⟨i, rfl, hi, HMi, HFi, HBi⟩ := hrel
    by_cases hil : i < s.l2.length
    ·have n3 : decide (i < s.l2.length) = true := by simpa using hil
     have p0 : (0 : Int) ≤ (i : Int) := by omega
     have p1 : (i : Int) < s.l2.length := by omega
     obtain ⟨ad, rfl, g9⟩ := pl_at H2.out i hil
     obtain ⟨x, hx⟩ : ∃ x, s.l2.getD i 0 = x := ⟨_, rfl⟩
     have hxm : x ∈ s.l2 := by rw [← hx, List.getD_eq_getElem?_getD, List.getElem?_eq_getElem hil]; exact List.getElem_mem _
     have HX := AsM (HS.out.i2 x hxm)
     have HSN := AsM (fm_snoc zigL 0 s.l2 i hil)
     rw [hx] at g9 HSN
     have q0 := frc g9 (HFV2.out.tr HFi.out) (by simp)
     clear hx hxm g9
     go_wp2_with (first | (go_at_call 11; ((with_reducible refine (CI.out V2.heap.size _ _ _ x HBi.out HFi.out.size HX.out (by have := HS.out.three_len i; omega)).mono ?_); rintro e W4 ⟨v4, rfl, hB4, hG4⟩; have HF4 : Aside0 (Fr V2 W4 []) := ⟨hG4.fr HBi.out HFi.out⟩; have HB4 := AsM hB4; clear hB4 hG4)))
     go_roundg (s.l2.length - (i + 1))
     case measure => have := HMi.out; omega
     case rel => exact ⟨i + 1, by go_num, by omega, ⟨Nat.le_refl _⟩, HF4, ⟨by rw [HSN.out]; exact HB4.out⟩⟩
    ·obtain rfl : i = s.l2.length := by omega
     have n3 : decide (s.l2.length < s.l2.length) = false := by simp
     obtain ⟨V3, hV3⟩ : ∃ V3 : World, V3 = wr := ⟨_, rfl⟩
     subst hV3
     have HB8 : Aside0 (Buf False V3 V2.heap.size u8 s.three) := ⟨by have h := HBi.out; rw [List.take_of_length_le (Nat.le_refl _)] at h; exact h⟩
     have HB7' := AsM (HB7.out.fr HFi.out)
     have HFV3 : Aside0 (Fr w V3 []) := ⟨HFV2.out.tr HFi.out⟩
     have HKV3 := AsM (HFi.out.bl HKV2.out)
     have HSV3 := AsM (HFi.out.bl HSV2.out)
     have t3 := blk_cell HSV3.out 3
     have hlt := blk_lt HSV3.out
     clear HBi HFi HB7 HFV2 HKV2 HSV2 H2
     go_wp2
     clear t3 hlt n3
     go_loopg [9, 59] s.l3.length (fun kq s9 s59 w3 => ∃ i : Nat, s59 = .int .i64 i ∧ i ≤ s.l3.length ∧ Aside0 (s.l3.length - i ≤ kq) ∧ Aside0 (Fr V3 w3 []) ∧ Aside0 (Buf False w3 V3.heap.size s9 ((s.l3.take i).flatMap rowL)))
     case atStart => exact ⟨0, rfl, by omega, ⟨Nat.le_refl _⟩, ⟨Fr.refl _ _⟩, ⟨Buf.nil _ _ _⟩⟩
     case round =>
      obtain ⟨i, rfl, hi, HMi, HFi, HBi⟩ := hrel
      by_cases hil : i < s.l3.length
      ·have n3 : decide (i < s.l3.length) = true := by simpa using hil
       have p0 : (0 : Int) ≤ (i : Int) := by omega
       have p1 : (i : Int) < s.l3.length := by omega
       obtain ⟨ad, R, cR, rfl, g9, hR⟩ := rw_at H3.out i hil
       obtain ⟨r, hx⟩ : ∃ x, s.l3.getD i [] = x := ⟨_, rfl⟩
       have hxm : r ∈ s.l3 := by rw [← hx, List.getD_eq_getElem?_getD, List.getElem?_eq_getElem hil]; exact List.getElem_mem _
       have HRI := AsM (HS.out.i3 r hxm)
       have HRL := AsM (HS.out.r3 r hxm)
       have mr := HRL.out
       have HSN := AsM (fm_snoc rowL [] s.l3 i hil)
       rw [hx] at g9 HSN hR
       have HR := AsM hR
       have q0 := frc g9 (HFV3.out.tr HFi.out) (by simp)
       clear hx hxm g9 hR
       obtain ⟨wo, hwo⟩ : ∃ wo : World, wo = wr := ⟨_, rfl⟩
       subst hwo
       go_wp2
       go_loopg [9, 65] r.length (fun kq s9 s65 w3 => ∃ j : Nat, s65 = .int .i64 j ∧ j ≤ r.length ∧ Aside0 (r.length - j ≤ kq) ∧ Aside0 (Fr V3 w3 []) ∧ Aside0 (Buf False w3 V3.heap.size s9 ((s.l3.take i).flatMap rowL ++ (r.take j).flatMap celL)))
       case atStart => exact ⟨0, rfl, by omega, ⟨Nat.le_refl _⟩, HFi, ⟨by simpa using HBi.out⟩⟩
       case round =>
        obtain ⟨j, rfl, hj, HMj, HFj, HBj⟩ := hrel
        by_cases hjl : j < r.length
        ·have n4 : decide (j < r.length) = true := by simpa using hjl
         have p2 : (0 : Int) ≤ (j : Int) := by omega
         have p3 : (j : Int) < r.length := by omega
         obtain ⟨ac, rfl, e0, e1⟩ := cl_at HR.out j hjl
         obtain ⟨x, hx⟩ : ∃ x, r.getD j z45 = x := ⟨_, rfl⟩
         have hxm : x ∈ r := by rw [← hx, List.getD_eq_getElem?_getD, List.getElem?_eq_getElem hjl]; exact List.getElem_mem _
         have HX := AsM (HRI.out x hxm)
         have HSJ := AsM (fm_snoc celL z45 r j hjl)
         rw [hx] at e0 e1 HSJ
         obtain ⟨xh, xv⟩ := x
         simp only at e0 e1
         have k0 := frc e0 (HFV3.out.tr HFj.out) (by simp)
         have k1 := frc e1 (HFV3.out.tr HFj.out) (by simp)
         have hcu := Tryz.underlying45
         clear hx hxm e0 e1
         go_wp2_with (first | (go_at_call 12; ((with_reducible refine (CC.out V3.heap.size _ _ _ xh xv (HBj.out.fr ((Fr.refl _ _).alloc _)) (HFj.out.alloc _).size HX.out (by have h1 := HS.out.four_len i; have h2 := rowL_len HRL.out HRI.out j; rw [List.length_append]; omega)).mono ?_); rintro e W4 ⟨v4, rfl, hB4, hG4⟩; have HF4 : Aside0 (Fr V3 W4 []) := ⟨hG4.fr (HBj.out.fr ((Fr.refl _ _).alloc _)) (HFj.out.alloc _)⟩; have HB4 := AsM hB4; clear hB4 hG4)))
         go_roundg (r.length - (j + 1))
         case measure => have := HMj.out; omega
         case rel => exact ⟨j + 1, by go_num, by omega, ⟨Nat.le_refl _⟩, HF4, ⟨by rw [HSJ.out, ← List.append_assoc]; exact HB4.out⟩⟩
        ·obtain rfl : j = r.length := by omega
         have n4 : decide (r.length < r.length) = false := by simp
         go_wp2
         go_roundg (s.l3.length - (i + 1))
         case measure => have := HMi.out; omega
         case rel => exact ⟨i + 1, by go_num, by omega, ⟨Nat.le_refl _⟩, HFj, ⟨by have h := HBj.out; rw [List.take_of_length_le (Nat.le_refl r.length)] at h; rw [HSN.out]; exact h⟩⟩
      ·obtain rfl : i = s.l3.length := by omega
       have n3 : decide (s.l3.length < s.l3.length) = false := by simp
       obtain ⟨V4, hV4⟩ : ∃ V4 : World, V4 = wr := ⟨_, rfl⟩
       subst hV4
       have hb9 : Buf False V4 V3.heap.size u9 s.four := by have h := HBi.out; rw [List.take_of_length_le (Nat.le_refl _)] at h; exact h
       have hb8 := HB8.out.fr HFi.out
       have hb7 := HB7'.out.fr HFi.out
       obtain ⟨A7', c7', rfl, l7, r7⟩ := hb7.reads
       obtain ⟨A8', c8', rfl, l8, r8⟩ := hb8.reads
       obtain ⟨A9', c9', rfl, l9, r9⟩ := hb9.reads
       have HQ7 : Aside0 (Sl V4 A7' c7' s.two) := ⟨⟨l7, r7⟩⟩
       have HQ8 : Aside0 (Sl V4 A8' c8' s.three) := ⟨⟨l8, r8⟩⟩
       have HQ9 : Aside0 (Sl V4 A9' c9' s.four) := ⟨⟨l9, r9⟩⟩
       have HFV4 : Aside0 (Fr w V4 []) := ⟨HFV3.out.tr HFi.out⟩
       have hk4 := HFi.out.bl HKV3.out
       obtain ⟨k0, k1, k2, k3, k4, k5, k6, k7⟩ := cc8 hk4
       have hlt := blk_lt hk4
       have hsec := Tryz.underlying50
       clear hb7 hb8 hb9 l7 l8 l9 r7 r8 r9 HB8 HB7' HFi HBi HKV3 HSV3 HFV3 hk4 H3
       have CS : Aside0 (∀ W g Am cm, Fr V4 W [] → Sl W Am cm P.mark → W.heap[g]? = some (.cells #[.int .i64 1, .slice Am P.mark.length cm, .int .i64 2, .slice A7' s.two.length c7', .int .i64 3, .slice A8' s.three.length c8', .int .i64 4, .slice A9' s.four.length c9'] 50 (0, 0)) → Calls Tryz.prog 13 #[.string ⟨#[80, 65, 89, 83, 65, 86, 69, 49]⟩, .slice (some ⟨g, 0, none⟩) 4 4] W fun e w' => ∃ v, e = .returned (.tuple #[v, .int .i64 0]) ∧ Buf True w' W.heap.size v (savedL P s) ∧ Fr W w' []) := ⟨fun W g Am cm h hm hb => by
        have hC := secs_C [(⟨1, P.mark⟩, Am, cm), (⟨2, s.two⟩, A7', c7'), (⟨3, s.three⟩, A8', c8'), (⟨4, s.four⟩, A9', c9')] (fun x hx => by
         simp only [List.mem_cons, List.not_mem_nil, or_false] at hx
         rcases hx with rfl | rfl | rfl | rfl
         ·exact hm
         ·exact HQ7.out.fr h
         ·exact HQ8.out.fr h
         ·exact HQ9.out.fr h) (by simp) hb
        exact oSeal_calls (some ⟨g, 0, none⟩) 4 (s.secs P.mark) _ (by decide) W hC (Stt.secsOk HS.out P.mark_length (mark_byte P))⟩
       have HSR : Aside0 (savedR P s = if 4194304 < (savedL P s).length then ([], 6) else (savedL P s, 0)) := ⟨rfl⟩
       obtain ⟨SL, hSL⟩ : ∃ SL, savedL P s = SL := ⟨_, rfl⟩
       rw [hSL] at CS HSR
       by_cases hbig : 4194304 < SL.length
       ·have hd : decide (4194304 < (SL.length : Int)) = true := decide_eq_true (by omega)
        have hd' : decide (4194304 < SL.length) = true := decide_eq_true hbig
        go_wp2_with (first
         | (go_at_call 14; ((with_reducible refine (CP.out _ HFV4.out).mono ?_); rintro e W5 ⟨Am, cm, q, rfl, rfl, hSl, hF⟩; have HM5 := AsM hSl; have HF5 := AsM hF; clear hSl hF))
         | (go_at_call 13; ((with_reducible refine (CS.out _ _ Am cm (HF5.out.alloc _) (HM5.out.fr ((Fr.refl _ _).alloc _)) (blk_newN rfl)).mono ?_); rintro e W6 ⟨v6, rfl, hB6, hF6⟩; obtain ⟨A6, c6, rfl, _, _⟩ := hB6.reads; have HF6 : Aside0 (Fr w W6 []) := ⟨HFV4.out.trans ((HF5.out.alloc _).tr hF6) (by simp)⟩; clear hB6 hF6)))
        go_ret2
        exact ⟨.slice none 0 0, (by rw [HSR.out, if_pos hbig]; rfl), by rw [HSR.out, if_pos hbig]; exact Buf.nil _ _ _, HF6.out⟩
       ·have hd : decide (4194304 < (SL.length : Int)) = false := decide_eq_false (by omega)
        have hd' : decide (4194304 < SL.length) = false := decide_eq_false hbig
        go_wp2_with (first
         | (go_at_call 14; ((with_reducible refine (CP.out _ HFV4.out).mono ?_); rintro e W5 ⟨Am, cm, q, rfl, rfl, hSl, hF⟩; have HM5 := AsM hSl; have HF5 := AsM hF; clear hSl hF))
         | (go_at_call 13; ((with_reducible refine (CS.out _ _ Am cm (HF5.out.alloc _) (HM5.out.fr ((Fr.refl _ _).alloc _)) (blk_newN rfl)).mono ?_); rintro e W6 ⟨v6, rfl, hB6, hF6⟩; have HB6 := AsM (hB6.lower (HFV4.out.trans (HF5.out.alloc _) (by simp)).size); obtain ⟨A6, c6, rfl, _, _⟩ := hB6.reads; have HF6 : Aside0 (Fr w W6 []) := ⟨HFV4.out.trans ((HF5.out.alloc _).tr hF6) (by simp)⟩; clear hB6 hF6)))
        go_ret2
        exact ⟨.slice A6 SL.length c6, (by rw [HSR.out, if_neg hbig]; rfl), by rw [HSR.out, if_neg hbig]; exact HB6.out, HF6.out⟩
end Go.Proofs.YtpoehkacfmljcaaGreatDoor.H
