/- (*machine.Machine).may. -/
import Derived.Test.YtmfbdmjgkcijcaaDoorZV
import Derived.Test.YtmfbdmjgkcijcaaDoorZKA
namespace Go.Proofs.YtmfbdmjgkcijcaaDoor.H
open Go.RowKit Go.Proofs.YtmfbdmjgkcijcaaDoorW.PrintWords Go.Proofs.YtmfbdmjgkcijcaaDoorW.PrintLast Go.Proofs.YtmfbdmjgkcijcaaDoorW.PrintMore
open Go.ChangeMaps (setBlock)
attribute [local go_sem] max2_int min2_int max_two min_two max_three min_three max_four min_four
set_option linter.unusedVariables false
set_option linter.unusedSimpArgs false
open Go.Proofs.YtmfbdmjgkcijcaaDoor.M
theorem lookI_run {w : World} {es : Es Int} {clk r : Nat} (kk : Int) (hb : w.heap[r]? = some (obj encI es clk)) : ∃ x : Int,
    (Instr.lookup 50 (.map (some r)) (.int .i64 kk) true).run Tryd.prog w = .ok (.tuple #[.int .i64 x, .bool (look es kk).isSome]) w := by
  have hz : (zeroValue 3).run Tryd.prog w = .ok (.int .i64 0) w := by kernel_rfl
  have hr := run_look (enc := encI) (k := kk) (.int .i64 0) Tryd.underlying50 Tryd.underlying3 hz hb
  rw [hr]
  cases look es kk <;> exact ⟨_, rfl⟩
theorem dayr_at {w : World} {A : Option Addr} {n : Nat} {xs : List S41} (h : ReadsRow DayR 2 w A n xs) (k : Nat) (hk : k < n) : ∃ ad A1 c1, A = some ad ∧ w.cell? (ad.add (k * 2)) = some (.int .i64 (xs.getD k z41).f0) ∧ w.cell? ⟨(ad.add (k * 2)).block, (ad.add (k * 2)).off + 1, none⟩ = some (.slice A1 (xs.getD k z41).f1.length c1) := by
  obtain ⟨ad, c, e, _, ⟨A1, c1, hc1⟩, hc⟩ := h.get_ z41 (k : Int) (by omega) (by omega)
  simp only [Int.toNat_natCast] at hc1 hc
  subst hc1
  exact ⟨ad, A1, c1, e, by simpa using hc 0 _ rfl, by rw [← add_field _ _ 1 (by omega)]; exact hc 1 _ rfl⟩
def sumB (t : Int) : List S41 → Nat
  | [] => 0
  | s :: l => (if s.f0 < t then s.f1.length else 0) + sumB t l
theorem sumB_append (t : Int) (l m : List S41) : sumB t (l ++ m) = sumB t l + sumB t m := by
  induction l with
  | nil => simp [sumB]
  | cons x l ih => simp only [List.cons_append, sumB, ih]; omega
theorem sumB_le (t : Int) {M : Nat} : ∀ (l : List S41), (∀ s ∈ l, s.f1.length ≤ M) → sumB t l ≤ l.length * M
  | [], _ => by simp [sumB]
  | s :: l, h => by
    have h1 := h s List.mem_cons_self
    have h2 := sumB_le t l (fun x hx => h x (List.mem_cons_of_mem _ hx))
    simp only [sumB, List.length_cons, Nat.add_mul, Nat.one_mul]
    split <;> omega
def rowBad (nn : Nat) (r : List S69) : Bool := !(decide (r.length = nn)) || r.any cellBad
/-- Is it a state of the machine's program? -/
def mayB (nn : Nat) (hor cel pba : Int) (days : List S41) (a0 a1 : Int) (l2 : List Int) (l3 : List (List S69)) (a4 a5 : Int) : Bool :=
  if a0 < 0 ∨ hor + 1 < a0 ∨ a1 < 0 ∨ (l2.length : Int) ≠ cel ∨ (l3.length : Int) ≠ if pba < a0 then pba else a0 then false else
  if (sumB a0 days : Int) < a1 ∨ (a0 = 0 ∧ l2.any (fun s => !(decide (s = 0))) = true) then false else
  if l3.any (rowBad nn) then false else
  if a4 = 0 then decide (a5 = 0) else decide (0 < a4) && decide (a4 ≤ 3) && decide (1 ≤ a0) && decide (a5 = a0 - 1) && segB days a5
def MayPost (b : Bool) (w : World) (e : Ending) (w' : World) : Prop := e = .returned (.bool b) ∧ Fr w w' []
set_option maxHeartbeats 4000000 in
set_option maxRecDepth 100000 in
theorem may_early (g nn : Nat) (hor cel slo sta pst pfu pba : Int) (days : List S41) (a0 a1 : Int) (A2 : Option Addr) (c2 : Nat) (l2 : List Int) (A3 : Option Addr) (c3 : Nat) (l3 : List (List S69)) (a4 a5 : Int) (w : World) (hm : Mach w g nn hor cel slo sta pst pfu pba days) (hh : 0 ≤ hor ∧ hor ≤ 100000)
    (hc : a0 < 0 ∨ hor + 1 < a0 ∨ a1 < 0 ∨ (l2.length : Int) ≠ cel ∨ (l3.length : Int) ≠ if pba < a0 then pba else a0) :
    Calls Tryd.prog 11 #[.pointer (some ⟨g, 0, none⟩), .agg #[.int .i64 a0, .int .i64 a1, .slice A2 l2.length c2, .slice A3 l3.length c3, .int .i64 a4, .int .i64 a5]] w (MayPost false w) := by
  obtain ⟨A0, c0, x1, x2, A7, c7, m, es, clk, hb, _, _, _⟩ := hm
  obtain ⟨hh0, hh1⟩ := hh
  have HB := Aside0.mk hb
  have e0 : w.cell? ⟨g, 0, none⟩ = some (.slice A0 nn c0) := blk_cell hb 0
  have e3 : w.cell? ⟨g, 3, none⟩ = some (.int .i64 hor) := blk_cell hb 3
  have e4 : w.cell? ⟨g, 4, none⟩ = some (.int .i64 cel) := blk_cell hb 4
  have e10 : w.cell? ⟨g, 10, none⟩ = some (.int .i64 pba) := blk_cell hb 10
  have hgl := blk_lt hb
  clear hb
  have hup := Tryd.underlying30
  have hw : IntKind.i64.wrap (hor + 1) = hor + 1 := by rw [i64_w]; unfold wrap64; omega
  have hcase : decide (a0 < 0) = true ∨ (decide (a0 < 0) = false ∧ decide (hor + 1 < a0) = true) ∨ (decide (a0 < 0) = false ∧ decide (hor + 1 < a0) = false ∧ decide (a1 < 0) = true) ∨ (decide (a0 < 0) = false ∧ decide (hor + 1 < a0) = false ∧ decide (a1 < 0) = false ∧ ((l2.length : Int) != cel) = true) ∨ (decide (a0 < 0) = false ∧ decide (hor + 1 < a0) = false ∧ decide (a1 < 0) = false ∧ ((l2.length : Int) != cel) = false ∧ ((l3.length : Int) != (if pba < a0 then pba else a0)) = true) := by
    simp only [decide_eq_true_eq, decide_eq_false_iff_not, bne_iff_ne, ne_eq, bne_eq_false_iff_eq]
    generalize (if pba < a0 then pba else a0) = mn at hc ⊢
    omega
  clear hc
  by_cases hp : pba < a0
  case pos =>
    simp only [if_pos hp] at hcase
    rcases hcase with h1 | ⟨h1, h2⟩ | ⟨h1, h2, h3⟩ | ⟨h1, h2, h3, h4⟩ | ⟨h1, h2, h3, h4, h5⟩
    all_goals (go_enter Tryd.func11, Tryd.ntmps11; go_wp2; go_quiet (fail); (all_goals (go_wp2; go_ret; exact ⟨rfl, FQ⟩)))
  case neg =>
    simp only [if_neg hp] at hcase
    have hp := Int.not_lt.1 hp
    rcases hcase with h1 | ⟨h1, h2⟩ | ⟨h1, h2, h3⟩ | ⟨h1, h2, h3, h4⟩ | ⟨h1, h2, h3, h4, h5⟩
    all_goals (go_enter Tryd.func11, Tryd.ntmps11; go_wp2; go_quiet (fail); (all_goals (go_wp2; go_ret; exact ⟨rfl, FQ⟩)))
set_option maxHeartbeats 4000000 in
set_option maxRecDepth 100000 in
theorem may_rest (g nn : Nat) (hor cel slo sta pst pfu pba : Int) (days : List S41) (a0 a1 : Int) (A2 : Option Addr) (c2 : Nat) (l2 : List Int) (A3 : Option Addr) (c3 : Nat) (l3 : List (List S69)) (a4 a5 : Int) (w : World) (hm : Mach w g nn hor cel slo sta pst pfu pba days) (hh : 0 ≤ hor ∧ hor ≤ 100000) (hdn : days.length ≤ 1000000) (hdl : ∀ s ∈ days, s.f1.length ≤ 1000000)
    (hr2 : Kd.C (Kd.int .i64) w A2 l2.length l2) (hc2 : l2.length ≤ c2) (hr3 : Kd.C (Kd.slice 69 k69) w A3 l3.length l3) (hc3 : l3.length ≤ c3)
    (hc : ¬ (a0 < 0 ∨ hor + 1 < a0 ∨ a1 < 0 ∨ (l2.length : Int) ≠ cel ∨ (l3.length : Int) ≠ if pba < a0 then pba else a0)) :
    Calls Tryd.prog 11 #[.pointer (some ⟨g, 0, none⟩), .agg #[.int .i64 a0, .int .i64 a1, .slice A2 l2.length c2, .slice A3 l3.length c3, .int .i64 a4, .int .i64 a5]] w (MayPost (mayB nn hor cel pba days a0 a1 l2 l3 a4 a5) w) := by
  obtain ⟨R, hR⟩ : ∃ x, mayB nn hor cel pba days a0 a1 l2 l3 a4 a5 = x := ⟨_, rfl⟩
  rw [hR]
  unfold mayB at hR
  rw [if_neg hc] at hR
  have HR := Aside0.mk hR
  clear hR
  obtain ⟨A0, c0, x1, x2, A7, c7, m, es, clk, hb, hrr, hmp, hsg⟩ := hm
  obtain ⟨hh0, hh1⟩ := hh
  have HB := Aside0.mk hb
  have HRR := Aside0.mk hrr
  have HMP := Aside0.mk hmp
  have HSG := Aside0.mk hsg
  have H2 := Aside0.mk hr2
  have H3 := Aside0.mk hr3
  have HDL := Aside0.mk hdl
  clear hrr hmp hsg hr2 hr3 hdl
  have e0 : w.cell? ⟨g, 0, none⟩ = some (.slice A0 nn c0) := blk_cell hb 0
  have e3 : w.cell? ⟨g, 3, none⟩ = some (.int .i64 hor) := blk_cell hb 3
  have e4 : w.cell? ⟨g, 4, none⟩ = some (.int .i64 cel) := blk_cell hb 4
  have e7 : w.cell? ⟨g, 7, none⟩ = some (.slice A7 days.length c7) := blk_cell hb 7
  have e10 : w.cell? ⟨g, 10, none⟩ = some (.int .i64 pba) := blk_cell hb 10
  have hgl := blk_lt hb
  clear hb
  have hup := Tryd.underlying30
  have hus := Tryd.underlying41
  have hw : IntKind.i64.wrap (hor + 1) = hor + 1 := by rw [i64_w]; unfold wrap64; omega
  have HC := Aside0.mk hc
  obtain ⟨mn, hmn⟩ : ∃ mn, (if pba < a0 then pba else a0) = mn := ⟨_, rfl⟩
  rw [hmn] at hc
  have hcase : (decide (a0 < 0) = false ∧ decide (hor + 1 < a0) = false ∧ decide (a1 < 0) = false ∧ ((l2.length : Int) != cel) = false ∧ ((l3.length : Int) != mn) = false) := by
    simp only [decide_eq_false_iff_not, bne_iff_ne, ne_eq, bne_eq_false_iff_eq]
    omega
  obtain ⟨h1, h2, h3, h4, h5⟩ := hcase
  clear hc
  go_enter Tryd.func11, Tryd.ntmps11
  go_wp2
  go_quiet (fail)
  go_upto_region 4 with fail
  clear h1 h2 h3 h4 h5 hmn
  refine name_ (fun V => Aside0 (Fr w V []) ∧ Aside0 (V.heap[w.heap.size]? = some (.cells #[.int .i64 a0, .int .i64 a1, .slice A2 l2.length c2, .slice A3 l3.length c3, .int .i64 a4, .int .i64 a5] 30 (0, 0)))) ⟨⟨FQ⟩, ⟨by (with_reducible (repeat (first | apply blk_drew | apply blk_alloc | apply blk_set))); exact blk_drewN (blk_newN rfl) _⟩⟩ ?_
  rintro V ⟨HF1, HB1⟩
  have b0 := blk_cell HB1.out 0
  have b1 := blk_cell HB1.out 1
  have b2 := blk_cell HB1.out 2
  have b3 := blk_cell HB1.out 3
  have b4 := blk_cell HB1.out 4
  have b5 := blk_cell HB1.out 5
  have hbl := blk_lt HB1.out
  have f0 : V.cell? ⟨g, 0, none⟩ = some (.slice A0 nn c0) := blk_cell (HF1.out.blk HB.out (by simp)) 0
  have f7 : V.cell? ⟨g, 7, none⟩ = some (.slice A7 days.length c7) := blk_cell (HF1.out.blk HB.out (by simp)) 7
  have f11 : V.cell? ⟨g, 11, none⟩ = some (.map (some m)) := blk_cell (HF1.out.blk HB.out (by simp)) 11
  have hgl2 : g < V.heap.size := by omega
  go_wp2
  go_loopg [5, 7, 62] days.length (fun kq s5 s7 s62 wr => ∃ (k sm : Nat), s5 = .int .i64 sm ∧ Aside0 (sm = sumB a0 (days.take k)) ∧ sm ≤ 1000000000000 ∧ s62 = .int .i64 k ∧ k ≤ days.length ∧ Aside0 (days.length - k ≤ kq) ∧ Aside0 (Fr V wr []))
  case atStart => exact ⟨0, 0, rfl, ⟨rfl⟩, by omega, rfl, Nat.zero_le _, ⟨Nat.le_refl _⟩, ⟨FQ⟩⟩
  case round =>
    obtain ⟨k, sm, rfl, HSM, hsm, rfl, hk, HM, HFW⟩ := hrel
    have hvw : V.heap.size ≤ wr.heap.size := HFW.out.size
    have b0' := blk_cell (HFW.out.blk HB1.out (by simp)) 0
    have hbr : w.heap.size < wr.heap.size := by omega
    by_cases hkl : k < days.length
    · have n3 : decide (k < days.length) = true := by simpa using hkl
      obtain ⟨ad, A1, c1, rfl, h1, h2⟩ := dayr_at (HRR.out.imp_ (HF1.out.trans HFW.out (by simp)).below (fun _ _ h => h)) k hkl
      obtain ⟨x, hx⟩ : ∃ x, days.getD k z41 = x := ⟨_, rfl⟩
      rw [hx] at h1 h2
      have hxm : days[k]? = some x := by rw [List.getD_eq_getElem?_getD, List.getElem?_eq_getElem hkl] at hx; rw [List.getElem?_eq_getElem hkl]; simpa using hx
      have hlx : x.f1.length ≤ 1000000 := HDL.out x (List.mem_of_getElem? hxm)
      have hst : sumB a0 (days.take (k + 1)) = sm + if x.f0 < a0 then x.f1.length else 0 := by
        rw [List.take_add_one, hxm, sumB_append, ← HSM.out]; simp [sumB]
      have hsl : sumB a0 (days.take (k + 1)) ≤ 1000000000000 := by
        have h8 := sumB_le a0 (days.take (k + 1)) (M := 1000000) (fun s hs => HDL.out s (List.mem_of_mem_take hs))
        have h9 : (days.take (k + 1)).length ≤ 1000000 := by rw [List.length_take]; omega
        have : (days.take (k + 1)).length * 1000000 ≤ 1000000 * 1000000 := Nat.mul_le_mul_right _ h9
        omega
      have HST := Aside0.mk hst
      have HSL := Aside0.mk hsl
      clear hx hxm hst hsl
      by_cases hxt : x.f0 < a0
      · have n4 : decide (x.f0 < a0) = true := by simpa using hxt
        go_wp2
        go_roundg (days.length - (k + 1))
        case measure => have := HM.out; omega
        case rel => exact ⟨k + 1, sm + x.f1.length, by go_num, ⟨by rw [HST.out, if_pos hxt]⟩, by have := HSL.out; rw [HST.out, if_pos hxt] at this; exact this, by go_num, by omega, ⟨Nat.le_refl _⟩, ⟨by (with_reducible (repeat (first | exact Fr.refl _ _ | refine Fr.drew ?_ | refine Fr.drewN ?_ _ | refine Fr.alloc ?_ _ | refine Fr.setCell ?_ _ _ ?_))) <;> first | exact HFW.out | (simp; done) | exact .inr (by omega) | (simp; omega)⟩⟩
      · have n4 : decide (x.f0 < a0) = false := by simpa using hxt
        go_wp2
        go_roundg (days.length - (k + 1))
        case measure => have := HM.out; omega
        case rel => exact ⟨k + 1, sm, rfl, ⟨by rw [HST.out, if_neg (by omega)]; rfl⟩, hsm, by go_num, by omega, ⟨Nat.le_refl _⟩, ⟨by (with_reducible (repeat (first | exact Fr.refl _ _ | refine Fr.drew ?_ | refine Fr.drewN ?_ _ | refine Fr.alloc ?_ _ | refine Fr.setCell ?_ _ _ ?_))) <;> first | exact HFW.out | (simp; done) | exact .inr (by omega) | (simp; omega)⟩⟩
    · obtain rfl : k = days.length := by omega
      have n3 : decide (days.length < days.length) = false := by simp
      have hse := HSM.out
      rw [List.take_length] at hse
      have HSE := Aside0.mk hse
      clear hse HSM
      go_upto_region 10 with fail
      have hrl := blk_lt (HFW.out.blk HB1.out (by simp))
      have b1' := blk_cell (HFW.out.blk HB1.out (by simp)) 1
      have b2' := blk_cell (HFW.out.blk HB1.out (by simp)) 2
      obtain ⟨bad, hbad⟩ : ∃ x, decide ((sm : Int) < a1 ∨ (a0 = 0 ∧ l2.any (fun s => !(decide (s = 0))) = true)) = x := ⟨_, rfl⟩
      have HBAD := Aside0.mk hbad
      clear hbad
      have H20 : Aside0 (∀ b, l2.any (fun s => !(decide (s = 0))) = b → Calls Tryd.prog 20 #[.slice A2 l2.length c2, .func (Fn.func 21) #[] #[]] wr fun e w' => e = .returned (.bool b) ∧ Drawn0 wr w') := ⟨fun b h => containsI_calls A2 c2 l2 wr (Kd.C_below H2.out (HF1.out.trans HFW.out (by simp)).below) hc2 b h⟩
      go_cut [90] (fun b wx => b = .bool bad ∧ Aside0 (Fr V wx []))
      case first =>
        by_cases hs1 : (sm : Int) < a1
        · obtain rfl : true = bad := by rw [← HBAD.out]; simp [hs1]
          have n5 : decide ((sm : Int) < a1) = true := by simpa using hs1
          go_wp2
          go_meet
          exact ⟨rfl, ⟨by (with_reducible (repeat (first | exact Fr.refl _ _ | refine Fr.drew ?_ | refine Fr.drewN ?_ _ | refine Fr.alloc ?_ _ | refine Fr.setCell ?_ _ _ ?_))); exact HFW.out⟩⟩
        · have n5 : decide ((sm : Int) < a1) = false := by simpa using hs1
          by_cases ha0 : a0 = 0
          · have n6 : (a0 == 0) = true := by simpa using ha0
            obtain ⟨an, han⟩ : ∃ x, l2.any (fun s => !(decide (s = 0))) = x := ⟨_, rfl⟩
            obtain rfl : an = bad := by rw [← HBAD.out, han]; simp [hs1, ha0]
            have HAN := Aside0.mk han
            clear han ha0 hs1
            go_wp2_with (first | (go_at_call 20; (refine (H20.out _ HAN.out).mono ?_); rintro e w' ⟨rfl, ⟨nd, rfl⟩⟩))
            go_meet
            exact ⟨by simp, ⟨by (with_reducible (repeat (first | exact Fr.refl _ _ | refine Fr.drew ?_ | refine Fr.drewN ?_ _ | refine Fr.alloc ?_ _ | refine Fr.setCell ?_ _ _ ?_))); exact HFW.out⟩⟩
          · obtain rfl : false = bad := by rw [← HBAD.out]; simp [hs1, ha0]
            have n6 : (a0 == 0) = false := by simpa using ha0
            go_wp2
            go_meet
            exact ⟨rfl, ⟨by (with_reducible (repeat (first | exact Fr.refl _ _ | refine Fr.drew ?_ | refine Fr.drewN ?_ _ | refine Fr.alloc ?_ _ | refine Fr.setCell ?_ _ _ ?_))); exact HFW.out⟩⟩
      case rest =>
      obtain ⟨rfl, HF2⟩ := hcut
      cases bad
      case true =>
        obtain rfl : false = R := by
          have := HBAD.out
          rw [HSE.out] at this
          rw [← HR.out, if_pos (by simpa using this)]
        go_wp2
        go_ret
        exact ⟨rfl, HF1.out.trans (by (with_reducible (repeat (first | exact Fr.refl _ _ | refine Fr.drew ?_ | refine Fr.drewN ?_ _ | refine Fr.alloc ?_ _ | refine Fr.setCell ?_ _ _ ?_))); exact HF2.out) (by simp)⟩
      case false =>
      have hr2 := HR.out
      rw [if_neg (by have := HBAD.out; rw [HSE.out] at this; simpa using this)] at hr2
      have HR2 := Aside0.mk hr2
      clear hr2 HR HBAD HSE
      go_upto_region 12 with fail
      clear HFW b0' b1' b2' hbr hvw hrl H20 b0 b1 b2 b3 b4 b5 f0 f7 f11 hgl2 n3 hsm hk HM
      have hl63 := Kd.C_max H3.out
      have ha00 : 0 ≤ a0 := by have := HC.out; omega
      have ha01 : a0 ≤ 100001 := by have := HC.out; omega
      have b3 := blk_cell (HF2.out.blk HB1.out (by simp)) 3
      have hbv := blk_lt (HF2.out.blk HB1.out (by simp))
      go_wp2
      go_loopg [9, 94] l3.length (fun kq s9 s94 wr => ∃ (k : Nat), s94 = .int .i64 k ∧ k ≤ l3.length ∧ Aside0 (l3.length - k ≤ kq) ∧ Aside0 (Fr V wr []) ∧ Aside0 ((l3.take k).any (rowBad nn) = false))
      case atStart => exact ⟨0, rfl, Nat.zero_le _, ⟨Nat.le_refl _⟩, ⟨by (with_reducible (repeat (first | exact Fr.refl _ _ | refine Fr.drew ?_ | refine Fr.drewN ?_ _ | refine Fr.alloc ?_ _ | refine Fr.setCell ?_ _ _ ?_))); exact HF2.out⟩, ⟨rfl⟩⟩
      case round =>
        clear b3 hbv
        obtain ⟨k, rfl, hk, HM, HFW, HNB⟩ := hrel
        have HFB := Aside0.mk (HFW.out.blk HB1.out (by simp))
        have HFG := Aside0.mk (HFW.out.blk (HF1.out.blk HB.out (by simp)) (by simp))
        have f0 : wr.cell? ⟨g, 0, none⟩ = some (.slice A0 nn c0) := blk_cell HFG.out 0
        have f11 : wr.cell? ⟨g, 11, none⟩ = some (.map (some m)) := blk_cell HFG.out 11
        by_cases hkl : k < l3.length
        · have n3 : decide (k < l3.length) = true := by simpa using hkl
          obtain ⟨ad, B0, d0, rfl, h1, h2, h3⟩ := at_L8 (Kd.C_below H3.out (HF1.out.trans HFW.out (by simp)).below) (k : Int) (by omega) (by omega)
          simp only [rd_L8, Int.toNat_natCast] at h1 h2 h3
          obtain ⟨xs, hxs⟩ : ∃ xs, l3.getD k [] = xs := ⟨_, rfl⟩
          rw [hxs] at h1 h2 h3
          have hxm : l3[k]? = some xs := by rw [List.getD_eq_getElem?_getD, List.getElem?_eq_getElem hkl] at hxs; rw [List.getElem?_eq_getElem hkl]; simpa using hxs
          have HXM := Aside0.mk hxm
          have HX3 := Aside0.mk h3
          clear h3 hxs hxm
          have H22 : Aside0 (∀ b, xs.any cellBad = b → Calls Tryd.prog 22 #[.slice B0 xs.length d0, .func (Fn.func 23) #[] #[]] wr fun e w' => e = .returned (.bool b) ∧ Fr wr w' []) := ⟨fun b h => containsC_calls B0 d0 xs wr HX3.out h2 b h⟩
          by_cases hn : xs.length = nn
          · have n7 : ((xs.length : Int) != (nn : Int)) = false := by rw [bne_eq_false_iff_eq]; omega
            obtain ⟨an, han⟩ : ∃ x, xs.any cellBad = x := ⟨_, rfl⟩
            have HAN := Aside0.mk han
            have HRB : Aside0 (rowBad nn xs = an) := ⟨by unfold rowBad; simp [hn, han]⟩
            clear han hn
            cases an
            · go_wp2_with (first | (go_at_call 22; (refine (H22.out _ HAN.out).mono ?_); rintro e w' ⟨rfl, hF9⟩; have HF9 := Aside0.mk (HFW.out.trans hF9 (by simp)); clear hF9))
              go_roundg (l3.length - (k + 1))
              case measure => have := HM.out; omega
              case rel => exact ⟨k + 1, by go_num, by omega, ⟨Nat.le_refl _⟩, ⟨by (with_reducible (repeat (first | exact Fr.refl _ _ | refine Fr.drew ?_ | refine Fr.drewN ?_ _ | refine Fr.alloc ?_ _ | refine Fr.setCell ?_ _ _ ?_))); exact HF9.out⟩, ⟨by rw [List.take_add_one, HXM.out, List.any_append, HNB.out]; simp [HRB.out]⟩⟩
            · obtain rfl : false = R := by rw [← HR2.out, if_pos (List.any_eq_true.2 ⟨xs, List.mem_of_getElem? HXM.out, HRB.out⟩)]
              go_wp2_with (first | (go_at_call 22; (refine (H22.out _ HAN.out).mono ?_); rintro e w' ⟨rfl, hF9⟩; have HF9 := Aside0.mk (HFW.out.trans hF9 (by simp)); clear hF9))
              go_ret
              exact ⟨rfl, HF1.out.trans (by (with_reducible (repeat (first | exact Fr.refl _ _ | refine Fr.drew ?_ | refine Fr.drewN ?_ _ | refine Fr.alloc ?_ _ | refine Fr.setCell ?_ _ _ ?_))); exact HF9.out) (by simp)⟩
          · have n7 : ((xs.length : Int) != (nn : Int)) = true := by rw [bne_iff_ne]; exact fun h9 => hn (by omega)
            obtain rfl : false = R := by rw [← HR2.out, if_pos (List.any_eq_true.2 ⟨xs, List.mem_of_getElem? HXM.out, by unfold rowBad; simp [hn]⟩)]
            clear hn
            go_wp2
            go_ret
            exact ⟨rfl, HF1.out.trans (by (with_reducible (repeat (first | exact Fr.refl _ _ | refine Fr.drew ?_ | refine Fr.drewN ?_ _ | refine Fr.alloc ?_ _ | refine Fr.setCell ?_ _ _ ?_))); exact HFW.out) (by simp)⟩
        · obtain rfl : k = l3.length := by omega
          have n3 : decide (l3.length < l3.length) = false := by simp
          have hr3 := HR2.out
          have hnb := HNB.out
          rw [List.take_length] at hnb
          rw [if_neg (by rw [hnb]; decide)] at hr3
          have b4 := blk_cell HFB.out 4
          have b5 := blk_cell HFB.out 5
          have b0 := blk_cell HFB.out 0
          have hbv := blk_lt HFB.out
          by_cases h40 : a4 = 0
          · have n8 : (a4 == 0) = true := by simpa using h40
            rw [if_pos h40] at hr3
            have n9 : (a5 == 0) = R := by rw [← hr3]; by_cases h : a5 = 0 <;> simp [h]
            clear hr3 hnb h40
            go_wp2
            go_ret
            exact ⟨rfl, HF1.out.trans (by (with_reducible (repeat (first | exact Fr.refl _ _ | refine Fr.drew ?_ | refine Fr.drewN ?_ _ | refine Fr.alloc ?_ _ | refine Fr.setCell ?_ _ _ ?_))); exact HFW.out) (by simp)⟩
          · have n8 : (a4 == 0) = false := by simpa using h40
            rw [if_neg h40] at hr3
            have HR3 := Aside0.mk hr3
            obtain ⟨xv, hlk⟩ := lookI_run (w := wr.drew) a5 (HFW.out.blk (HF1.out.blk HMP.out (by simp)) (by simp))
            rw [HSG.out] at hlk
            clear hr3 hnb h40
            go_upto_region 20 with fail
            go_region
            go_upto_region 21 with fail
            have hr4 := HR3.out
            have hqq : decide (a5 = a0 - 1) = (a5 == a0 - 1) := by by_cases h : a5 = a0 - 1 <;> simp [h]
            rw [hqq] at hr4
            obtain ⟨q1, hq1⟩ : ∃ x, decide (0 < a4) = x := ⟨_, rfl⟩
            obtain ⟨q2, hq2⟩ : ∃ x, decide (a4 ≤ 3) = x := ⟨_, rfl⟩
            obtain ⟨q3, hq3⟩ : ∃ x, decide (1 ≤ a0) = x := ⟨_, rfl⟩
            obtain ⟨q4, hq4⟩ : ∃ x, (a5 == a0 - 1) = x := ⟨_, rfl⟩
            obtain ⟨sg, hsg⟩ : ∃ x, segB days a5 = x := ⟨_, rfl⟩
            rw [hq1, hq2, hq3, hq4, hsg] at hr4
            rw [hsg]
            clear HR3 hqq hlk hsg
            subst hr4
            have n10 : IntKind.i64.wrap (a0 - 1) = a0 - 1 := by rw [i64_w]; unfold wrap64; omega
            rename_i r1 r2 r3 r4 r5
            clear r3 r4
            have hcs : q1 = false ∨ (q1 = true ∧ q2 = false) ∨ (q1 = true ∧ q2 = true ∧ q3 = false) ∨ (q1 = true ∧ q2 = true ∧ q3 = true ∧ q4 = false) ∨ (q1 = true ∧ q2 = true ∧ q3 = true ∧ q4 = true) := by cases q1 <;> cases q2 <;> cases q3 <;> cases q4 <;> decide
            rcases hcs with rfl | ⟨rfl, rfl⟩ | ⟨rfl, rfl, rfl⟩ | ⟨rfl, rfl, rfl, rfl⟩ | ⟨rfl, rfl, rfl, rfl⟩
            all_goals (
              go_wp2
              go_ret
              exact ⟨by simp, HF1.out.trans (M := []) (by (with_reducible (repeat (first | exact Fr.refl _ _ | refine Fr.drew ?_ | refine Fr.drewN ?_ _ | refine Fr.alloc ?_ _ | refine Fr.setCell ?_ _ _ ?_))); exact HFW.out) (by simp)⟩)
theorem may_calls (g nn : Nat) (hor cel slo sta pst pfu pba : Int) (days : List S41) (a0 a1 : Int) (A2 : Option Addr) (c2 : Nat) (l2 : List Int) (A3 : Option Addr) (c3 : Nat) (l3 : List (List S69)) (a4 a5 : Int) (w : World) (hm : Mach w g nn hor cel slo sta pst pfu pba days) (hh : 0 ≤ hor ∧ hor ≤ 100000) (hdn : days.length ≤ 1000000) (hdl : ∀ s ∈ days, s.f1.length ≤ 1000000)
    (hr2 : Kd.C (Kd.int .i64) w A2 l2.length l2) (hc2 : l2.length ≤ c2) (hr3 : Kd.C (Kd.slice 69 k69) w A3 l3.length l3) (hc3 : l3.length ≤ c3) :
    Calls Tryd.prog 11 #[.pointer (some ⟨g, 0, none⟩), .agg #[.int .i64 a0, .int .i64 a1, .slice A2 l2.length c2, .slice A3 l3.length c3, .int .i64 a4, .int .i64 a5]] w (MayPost (mayB nn hor cel pba days a0 a1 l2 l3 a4 a5) w) := by
  by_cases hc : a0 < 0 ∨ hor + 1 < a0 ∨ a1 < 0 ∨ (l2.length : Int) ≠ cel ∨ (l3.length : Int) ≠ if pba < a0 then pba else a0
  · rw [show mayB nn hor cel pba days a0 a1 l2 l3 a4 a5 = false by unfold mayB; rw [if_pos hc]]
    exact may_early g nn hor cel slo sta pst pfu pba days a0 a1 A2 c2 l2 A3 c3 l3 a4 a5 w hm hh hc
  · exact may_rest g nn hor cel slo sta pst pfu pba days a0 a1 A2 c2 l2 A3 c3 l3 a4 a5 w hm hh hdn hdl hr2 hc2 hr3 hc3 hc
end Go.Proofs.YtmfbdmjgkcijcaaDoor.H
