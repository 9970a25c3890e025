/- image.Canon. -/
import Derived.Test.YtmfbdmjgkcijcaaDoorZV
import Derived.Test.YtmfbdmjgkcijcaaDoorZHZ
namespace Go.Proofs.YtmfbdmjgkcijcaaDoor.H
open Go.RowKit Go.Proofs.YtmfbdmjgkcijcaaDoorW.PrintWords Go.Proofs.YtmfbdmjgkcijcaaDoorW.PrintLast Go.Proofs.YtmfbdmjgkcijcaaDoorW.PrintMore
open Go.ChangeMaps (setBlock)
attribute [local go_sem] max2_int min2_int max_two min_two max_three min_three max_four min_four
set_option linter.unusedVariables false
set_option linter.unusedSimpArgs false
open Go.Proofs.YtmfbdmjgkcijcaaDoor.M
def CanonPost (r : Int) (w : World) (e : Ending) (w' : World) : Prop := e = .returned (.int .i64 r) ∧ Fr w w' []
theorem canon_end {r x : Int} {w W : World} (h : r = x) (hf : Fr w W []) : CanonPost r w (.returned (.int .i64 x)) W := ⟨by rw [h], hf⟩
theorem canon_none {names curs : List ByteArray} {pool : List Int} {hor cel slo sta : Int} {days : List S41} {d : Nat} {cnt last : Int} {b : BL} {s : S41} {rest : List S41} (hl : listsB names curs pool hor cel slo sta = true) (h : canonDays hor cel slo days 0 (-1) (bl0 names curs pool) = canonDays hor cel slo (days.drop d) cnt last b) (hd : days.drop d = s :: rest) (hn : canonDays hor cel slo (s :: rest) cnt last b = none) : canonP names curs pool hor cel slo sta days = 121 := by
  unfold canonP
  rw [if_neg (by rw [hl]; decide), h, hd, hn]
theorem three (W : World) (X Y Z T : Obj) : ((((W.alloc X).alloc Y).alloc Z).alloc T).drew.heap[W.heap.size]? = some X ∧ ((((W.alloc X).alloc Y).alloc Z).alloc T).drew.heap[W.heap.size + 1]? = some Y ∧ ((((W.alloc X).alloc Y).alloc Z).alloc T).drew.heap[W.heap.size + 1 + 1]? = some Z ∧ ((((W.alloc X).alloc Y).alloc Z).alloc T).drew.heap[W.heap.size + 1 + 1 + 1]? = some T :=
  ⟨blk_drew (blk_alloc (blk_alloc (blk_alloc (blk_newN rfl) _) _) _), blk_drew (blk_alloc (blk_alloc (blk_newN (by simp)) _) _), blk_drew (blk_alloc (blk_newN (by simp)) _), blk_drew (blk_newN (by simp))⟩
set_option maxHeartbeats 4000000 in
set_option maxRecDepth 100000 in
theorem canon_calls (A0 : Option Addr) (c0 : Nat) (names : List ByteArray) (A1 : Option Addr) (c1 : Nat) (curs : List ByteArray) (A2 : Option Addr) (c2 : Nat) (pool : List Int) (hor cel slo sta : Int) (A7 : Option Addr) (c7 : Nat) (days : List S41) (w : World) (hr0 : Kd.C Kd.string w A0 names.length names) (hc0 : names.length ≤ c0) (hr1 : Kd.C Kd.string w A1 curs.length curs) (hc1 : curs.length ≤ c1) (hr2 : Kd.C (Kd.int .i64) w A2 pool.length pool) (hc2 : pool.length ≤ c2) (hr7 : Kd.C k41 w A7 days.length days) (hc7 : days.length ≤ c7) (hpl : pool.length ≤ 100000000000000) (hdl : ∀ s ∈ days, s.f1.length ≤ 10000000000000) (G : TabW w) :
    Calls Tryd.prog 34 #[.agg #[.slice A0 names.length c0, .slice A1 curs.length c1, .slice A2 pool.length c2, .int .i64 hor, .int .i64 cel, .int .i64 slo, .int .i64 sta, .slice A7 days.length c7]] w (CanonPost (canonP names curs pool hor cel slo sta days) w) := by
  obtain ⟨bL, hL⟩ : ∃ b, listsB names curs pool hor cel slo sta = b := ⟨_, rfl⟩
  have LC : Aside0 (∀ W, Fr w W [] → Calls Tryd.prog 43 #[.agg #[.slice A0 names.length c0, .slice A1 curs.length c1, .slice A2 pool.length c2, .int .i64 hor, .int .i64 cel, .int .i64 slo, .int .i64 sta, .slice A7 days.length c7]] W fun e w' => e = .returned (.bool bL) ∧ Fr W w' []) := ⟨fun W h => hL ▸ lists_calls A0 c0 names A1 c1 curs A2 c2 pool hor cel slo sta _ W (Kd.C_below hr0 h.below) hc0 (Kd.C_below hr1 h.below) hc1 (Kd.C_below hr2 h.below) hc2 hpl⟩
  have HC7 := Aside0.mk hr7
  have hd63 := Kd.C_max hr7
  have HG := Aside0.mk G
  have HDL := Aside0.mk hdl
  clear hr0 hr1 hr2 hr7 G hdl
  have HLB := Aside0.mk hL
  clear hL
  cases bL
  · have HCP : Aside0 (canonP names curs pool hor cel slo sta days = 121) := ⟨by unfold canonP; rw [if_pos HLB.out]⟩
    rw [HCP.out]
    go_enter Tryd.func34, Tryd.ntmps34
    go_wp2_with (first | (go_at_call 43; (with_reducible refine (LC.out _ ?_).mono ?_); (next => exact FQ); rintro e W1 ⟨rfl, hF1⟩))
    go_ret
    exact ⟨rfl, Fr.trans (M := []) FQ hF1 (by simp)⟩
  have hlens : names.length ≤ 64 ∧ curs.length ≤ 4096 ∧ pool.length ≤ 16384 := by
    have h := HLB.out
    unfold listsB at h
    simp only [Bool.and_eq_true, Bool.not_eq_true', decide_eq_false_iff_not] at h
    omega
  obtain ⟨hl1, hl2, hl3⟩ := hlens
  go_enter Tryd.func34, Tryd.ntmps34
  go_upto_region 3 with (first | (go_at_call 43; (with_reducible refine (LC.out _ ?_).mono ?_); (next => exact FQ); rintro e W1 ⟨rfl, hF1⟩; have HB1 := Aside0.mk (hF1.blk (g := w.heap.size) (blk_newN rfl) (by simp)); have HF1 : Aside0 (Fr w W1 []) := ⟨Fr.trans (M := []) FQ hF1 (by simp)⟩; clear hF1))
  go_cut [3] (fun x wx => ∃ u g1 g2 g3 : Nat, x = .pointer (some ⟨u, 0, none⟩) ∧ Aside0 (Fr w wx []) ∧ Aside0 (wx.heap[w.heap.size]? = some (.cells #[.slice A0 names.length c0, .slice A1 curs.length c1, .slice A2 pool.length c2, .int .i64 hor, .int .i64 cel, .int .i64 slo, .int .i64 sta, .slice A7 days.length c7] 26 (0, 0))) ∧ Aside0 (Uses wx u g1 g2 g3 (bl0 names curs pool).1 (bl0 names curs pool).2.1 (bl0 names curs pool).2.2) ∧ w.heap.size < g1 ∧ w.heap.size < g2 ∧ w.heap.size < g3)
  case first =>
    have mk1 := mk_run names.length (by omega)
    have mk2 := mk_run curs.length (by omega)
    have mk3 := mk_run pool.length (by omega)
    have hb0 : W1.cell? ⟨w.heap.size, 0, none⟩ = some (.slice A0 names.length c0) := blk_cell HB1.out 0
    have hb1 : W1.cell? ⟨w.heap.size, 1, none⟩ = some (.slice A1 curs.length c1) := blk_cell HB1.out 1
    have hb2 : W1.cell? ⟨w.heap.size, 2, none⟩ = some (.slice A2 pool.length c2) := blk_cell HB1.out 2
    have hbl := blk_lt HB1.out
    go_region_held3 (fun w' => w'.cell? ⟨w.heap.size, 0, none⟩ = some (.slice A0 names.length c0) ∧ w'.cell? ⟨w.heap.size, 1, none⟩ = some (.slice A1 curs.length c1) ∧ w'.cell? ⟨w.heap.size, 2, none⟩ = some (.slice A2 pool.length c2)) (first | (refine ⟨fr_at (L := []) hb0 ?_ List.not_mem_nil, fr_at (L := []) hb1 ?_ List.not_mem_nil, fr_at (L := []) hb2 ?_ List.not_mem_nil⟩ <;> exact FQ) | go_keep) (fail)
    · clear mk1 mk2 mk3
      go_wp2
      go_meet
      exact ⟨W1.heap.size + 1 + 1 + 1, W1.heap.size, W1.heap.size + 1, W1.heap.size + 1 + 1, rfl, ⟨by (with_reducible (repeat (first | exact Fr.refl _ _ | refine Fr.drew ?_ | refine Fr.drewN ?_ _ | refine Fr.alloc ?_ _ | refine Fr.setCell ?_ _ _ ?_))) <;> exact HF1.out⟩, ⟨by (repeat (first | exact HB1.out | apply blk_drew | apply blk_alloc))⟩, ⟨⟨by simp only [bl0, List.length_replicate]; exact (three _ _ _ _ _).2.2.2, (three _ _ _ _ _).1, (three _ _ _ _ _).2.1, (three _ _ _ _ _).2.2.1, by omega, by omega, by omega⟩⟩, by omega, by omega, by omega⟩
    · clear mk1 mk2 mk3
      go_wp2
      go_meet
      exact ⟨W1.heap.size + 1 + 1 + 1, W1.heap.size, W1.heap.size + 1 + 1, W1.heap.size + 1, rfl, ⟨by (with_reducible (repeat (first | exact Fr.refl _ _ | refine Fr.drew ?_ | refine Fr.drewN ?_ _ | refine Fr.alloc ?_ _ | refine Fr.setCell ?_ _ _ ?_))) <;> exact HF1.out⟩, ⟨by (repeat (first | exact HB1.out | apply blk_drew | apply blk_alloc))⟩, ⟨⟨by simp only [bl0, List.length_replicate]; exact (three _ _ _ _ _).2.2.2, (three _ _ _ _ _).1, (three _ _ _ _ _).2.2.1, (three _ _ _ _ _).2.1, by omega, by omega, by omega⟩⟩, by omega, by omega, by omega⟩
    · clear mk1 mk2 mk3
      go_wp2
      go_meet
      exact ⟨W1.heap.size + 1 + 1 + 1, W1.heap.size + 1, W1.heap.size, W1.heap.size + 1 + 1, rfl, ⟨by (with_reducible (repeat (first | exact Fr.refl _ _ | refine Fr.drew ?_ | refine Fr.drewN ?_ _ | refine Fr.alloc ?_ _ | refine Fr.setCell ?_ _ _ ?_))) <;> exact HF1.out⟩, ⟨by (repeat (first | exact HB1.out | apply blk_drew | apply blk_alloc))⟩, ⟨⟨by simp only [bl0, List.length_replicate]; exact (three _ _ _ _ _).2.2.2, (three _ _ _ _ _).2.1, (three _ _ _ _ _).1, (three _ _ _ _ _).2.2.1, by omega, by omega, by omega⟩⟩, by omega, by omega, by omega⟩
    · clear mk1 mk2 mk3
      go_wp2
      go_meet
      exact ⟨W1.heap.size + 1 + 1 + 1, W1.heap.size + 1 + 1, W1.heap.size, W1.heap.size + 1, rfl, ⟨by (with_reducible (repeat (first | exact Fr.refl _ _ | refine Fr.drew ?_ | refine Fr.drewN ?_ _ | refine Fr.alloc ?_ _ | refine Fr.setCell ?_ _ _ ?_))) <;> exact HF1.out⟩, ⟨by (repeat (first | exact HB1.out | apply blk_drew | apply blk_alloc))⟩, ⟨⟨by simp only [bl0, List.length_replicate]; exact (three _ _ _ _ _).2.2.2, (three _ _ _ _ _).2.2.1, (three _ _ _ _ _).1, (three _ _ _ _ _).2.1, by omega, by omega, by omega⟩⟩, by omega, by omega, by omega⟩
    · clear mk1 mk2 mk3
      go_wp2
      go_meet
      exact ⟨W1.heap.size + 1 + 1 + 1, W1.heap.size + 1, W1.heap.size + 1 + 1, W1.heap.size, rfl, ⟨by (with_reducible (repeat (first | exact Fr.refl _ _ | refine Fr.drew ?_ | refine Fr.drewN ?_ _ | refine Fr.alloc ?_ _ | refine Fr.setCell ?_ _ _ ?_))) <;> exact HF1.out⟩, ⟨by (repeat (first | exact HB1.out | apply blk_drew | apply blk_alloc))⟩, ⟨⟨by simp only [bl0, List.length_replicate]; exact (three _ _ _ _ _).2.2.2, (three _ _ _ _ _).2.1, (three _ _ _ _ _).2.2.1, (three _ _ _ _ _).1, by omega, by omega, by omega⟩⟩, by omega, by omega, by omega⟩
    · clear mk1 mk2 mk3
      go_wp2
      go_meet
      exact ⟨W1.heap.size + 1 + 1 + 1, W1.heap.size + 1 + 1, W1.heap.size + 1, W1.heap.size, rfl, ⟨by (with_reducible (repeat (first | exact Fr.refl _ _ | refine Fr.drew ?_ | refine Fr.drewN ?_ _ | refine Fr.alloc ?_ _ | refine Fr.setCell ?_ _ _ ?_))) <;> exact HF1.out⟩, ⟨by (repeat (first | exact HB1.out | apply blk_drew | apply blk_alloc))⟩, ⟨⟨by simp only [bl0, List.length_replicate]; exact (three _ _ _ _ _).2.2.2, (three _ _ _ _ _).2.2.1, (three _ _ _ _ _).2.1, (three _ _ _ _ _).1, by omega, by omega, by omega⟩⟩, by omega, by omega, by omega⟩
  case rest =>
  obtain ⟨u, g1, g2, g3, rfl, HFc, HBc, HUc, hg1, hg2, hg3⟩ := hcut
  have HGE : Aside0 (w.heap.size ≤ g1 ∧ w.heap.size ≤ g2 ∧ w.heap.size ≤ g3) := ⟨by omega⟩
  have hbx7 : wc.cell? ⟨w.heap.size, 7, none⟩ = some (.slice A7 days.length c7) := blk_cell HBc.out 7
  go_wp2
  go_loopg [4, 5, 30] days.length (fun kq s4 s5 x wr => ∃ (d : Nat) (cnt last : Int) (b : BL), s4 = .int .i64 cnt ∧ s5 = .int .i64 last ∧ x = .int .i64 d ∧ d ≤ days.length ∧ 0 ≤ cnt ∧ cnt ≤ 262144 ∧ Aside0 (days.length - d ≤ kq) ∧ Aside0 (Fr w wr []) ∧ Aside0 (wr.heap[w.heap.size]? = some (.cells #[.slice A0 names.length c0, .slice A1 curs.length c1, .slice A2 pool.length c2, .int .i64 hor, .int .i64 cel, .int .i64 slo, .int .i64 sta, .slice A7 days.length c7] 26 (0, 0))) ∧ Aside0 (Uses wr u g1 g2 g3 b.1 b.2.1 b.2.2) ∧ Aside0 (b.1.length = names.length ∧ b.2.1.length = curs.length ∧ b.2.2.length = pool.length) ∧ Aside0 (canonDays hor cel slo days 0 (-1) (bl0 names curs pool) = canonDays hor cel slo (days.drop d) cnt last b))
  case atStart => exact ⟨0, 0, -1, bl0 names curs pool, rfl, rfl, rfl, Nat.zero_le _, by omega, by omega, ⟨Nat.le_refl _⟩, HFc, HBc, HUc, ⟨by simp [bl0]⟩, ⟨rfl⟩⟩
  case round =>
    obtain ⟨d, cnt, last, b, rfl, rfl, rfl, hd, hc0', hc1', HM, HF, HB, HU, HLN, HSP⟩ := hrel
    by_cases hdl : d < days.length
    · have n3 : decide (d < days.length) = true := by simpa using hdl
      have p0 : (0 : Int) ≤ (d : Int) := by omega
      have p1 : (d : Int) < days.length := by omega
      obtain ⟨ad, A8, c8, rfl, h0, h1, hcap, hC1⟩ := day_at HC7.out d hdl
      obtain ⟨sg, hsg⟩ : ∃ sg, days.getD d z41 = sg := ⟨_, rfl⟩
      have HDR : Aside0 (days.drop d = sg :: days.drop (d + 1)) := ⟨by rw [← hsg, List.drop_eq_getElem_cons hdl, List.getD_eq_getElem?_getD, List.getElem?_eq_getElem hdl]; rfl⟩
      have hcl : sg.f1.length ≤ 10000000000000 := HDL.out _ (by rw [← hsg, List.getD_eq_getElem?_getD, List.getElem?_eq_getElem hdl]; exact List.getElem_mem _)
      rw [hsg] at h0 h1 hcap hC1
      obtain ⟨day, code⟩ := sg
      simp only at h0 h1 hcap hC1 hcl
      have q0 := fr_at h0 HF.out (by simp)
      have q1 := fr_at h1 HF.out (by simp)
      have HCC := Aside0.mk hC1
      have hb3 : wr.cell? ⟨w.heap.size, 3, none⟩ = some (.int .i64 hor) := blk_cell HB.out 3
      have hbl := blk_lt HB.out
      have hut := Tryd.underlying41
      have hup := Tryd.underlying26
      clear h0 h1 hsg hC1
      by_cases t1 : day ≤ last
      · have HN := Aside0.mk (canon_none HLB.out HSP.out HDR.out (by unfold canonDays; rw [if_pos t1]))
        rw [HN.out]
        go_wp2
        go_ret
        exact ⟨rfl, HF.out.alloc _⟩
      by_cases t2 : hor < day
      · have HN := Aside0.mk (canon_none HLB.out HSP.out HDR.out (by unfold canonDays; rw [if_neg t1, if_pos t2]))
        rw [HN.out]
        go_wp2
        go_ret
        exact ⟨rfl, HF.out.alloc _⟩
      by_cases t3 : 262144 < cnt + code.length
      · have HN := Aside0.mk (canon_none HLB.out HSP.out HDR.out (by unfold canonDays; rw [if_neg t1, if_neg t2, if_pos t3]))
        rw [HN.out]
        go_wp2
        go_ret
        exact ⟨rfl, HF.out.alloc _⟩
      have v0 : wr.cell? ⟨w.heap.size, 0, none⟩ = some (.slice A0 names.length c0) := blk_cell HB.out 0
      have v1 : wr.cell? ⟨w.heap.size, 1, none⟩ = some (.slice A1 curs.length c1) := blk_cell HB.out 1
      have v2 : wr.cell? ⟨w.heap.size, 2, none⟩ = some (.slice A2 pool.length c2) := blk_cell HB.out 2
      have v4 : wr.cell? ⟨w.heap.size, 4, none⟩ = some (.int .i64 cel) := blk_cell HB.out 4
      have v5 : wr.cell? ⟨w.heap.size, 5, none⟩ = some (.int .i64 slo) := blk_cell HB.out 5
      have v6 : wr.cell? ⟨w.heap.size, 6, none⟩ = some (.int .i64 sta) := blk_cell HB.out 6
      have v7 : wr.cell? ⟨w.heap.size, 7, none⟩ = some (.slice (some ad) days.length c7) := blk_cell HB.out 7
      obtain ⟨R, hR⟩ : ∃ R, dayU cel slo code b = R := ⟨_, rfl⟩
      obtain ⟨rb, b2⟩ := R
      have HDU := Aside0.mk hR
      have T1 := Aside0.mk t1
      have T2 := Aside0.mk t2
      have T3 := Aside0.mk t3
      clear hR
      cases rb
      · have HN := Aside0.mk (canon_none HLB.out HSP.out HDR.out (by unfold canonDays; rw [if_neg T1.out, if_neg T2.out, if_neg T3.out, HDU.out]; rfl))
        rw [HN.out]
        go_wp2_with (first | (go_at_call 44; (refine (day_calls u g1 g2 g3 b (.slice A0 names.length c0) (.slice A1 curs.length c1) (.slice A2 pool.length c2) (.int .i64 hor) cel slo (.int .i64 sta) (.slice (some ad) days.length c7) A8 c8 code w _ (HF.out.alloc _) HCC.out hcap (HU.out.fr ((Fr.refl _ _).alloc _)) HGE.out HG.out (by have := HLN.out; omega) (by have := HLN.out; omega) (by have := HLN.out; omega)).mono ?_); rw [HDU.out]; rintro e W2 ⟨rfl, hF2, hU3⟩; have HF2 := Aside0.mk hF2; have HU3 := Aside0.mk hU3; have hszr := HF.out.size; have HSB := Aside0.mk (hF2.blk (g := wr.heap.size) (blk_newN rfl) (by have h7 := blk_lt HU.out.n1; have h8 := blk_lt HU.out.n2; have h9 := blk_lt HU.out.n3; simp; omega)); have hsd : W2.cell? ⟨wr.heap.size, 0, none⟩ = some (.int .i64 day) := blk_cell HSB.out 0; clear hF2 hU3))
        go_ret
        exact ⟨rfl, (HF.out.alloc _).trans HF2.out (fun i hi => .inr (by have := HGE.out; simp at hi; omega))⟩
      · go_wp2_with (first | (go_at_call 44; (refine (day_calls u g1 g2 g3 b (.slice A0 names.length c0) (.slice A1 curs.length c1) (.slice A2 pool.length c2) (.int .i64 hor) cel slo (.int .i64 sta) (.slice (some ad) days.length c7) A8 c8 code w _ (HF.out.alloc _) HCC.out hcap (HU.out.fr ((Fr.refl _ _).alloc _)) HGE.out HG.out (by have := HLN.out; omega) (by have := HLN.out; omega) (by have := HLN.out; omega)).mono ?_); rw [HDU.out]; rintro e W2 ⟨rfl, hF2, hU3⟩; have HF2 := Aside0.mk hF2; have HU3 := Aside0.mk hU3; have hszr := HF.out.size; have HSB := Aside0.mk (hF2.blk (g := wr.heap.size) (blk_newN rfl) (by have h7 := blk_lt HU.out.n1; have h8 := blk_lt HU.out.n2; have h9 := blk_lt HU.out.n3; simp; omega)); have hsd : W2.cell? ⟨wr.heap.size, 0, none⟩ = some (.int .i64 day) := blk_cell HSB.out 0; clear hF2 hU3))
        go_roundg (days.length - (d + 1))
        case measure => have := HM.out; omega
        case rel =>
          have hln := dayU_len cel slo code b
          rw [HDU.out] at hln
          have hsp := HSP.out
          rw [HDR.out] at hsp
          have hstep : canonDays hor cel slo (⟨day, code⟩ :: days.drop (d + 1)) cnt last b = canonDays hor cel slo (days.drop (d + 1)) (cnt + code.length) day b2 := by
            conv => lhs; unfold canonDays
            simp only
            rw [if_neg (by have := T1.out; omega), if_neg (by have := T2.out; omega), if_neg (by have := T3.out; omega), HDU.out]; rfl
          have h7 := blk_lt HU.out.n1
          have h8 := blk_lt HU.out.n2
          have h9 := blk_lt HU.out.n3
          have t3' := T3.out
          exact ⟨d + 1, cnt + code.length, day, b2, rfl, rfl, by go_num, by omega, by omega, by omega, ⟨Nat.le_refl _⟩, ⟨(HF.out.alloc _).trans HF2.out (fun i hi => .inr (by have := HGE.out; simp at hi; omega))⟩, ⟨HF2.out.blk (blk_alloc HB.out _) (by simp; omega)⟩, HU3, ⟨⟨hln.1.trans HLN.out.1, hln.2.1.trans HLN.out.2.1, hln.2.2.trans HLN.out.2.2⟩⟩, ⟨hsp.trans hstep⟩⟩
    · obtain rfl : d = days.length := by omega
      have n3 : decide (days.length < days.length) = false := by simp
      have hsp := HSP.out
      rw [List.drop_length] at hsp
      obtain ⟨q1, hq1⟩ : ∃ q, b.1.contains false = q := ⟨_, rfl⟩
      obtain ⟨q2, hq2⟩ : ∃ q, b.2.1.contains false = q := ⟨_, rfl⟩
      obtain ⟨q3, hq3⟩ : ∃ q, b.2.2.contains false = q := ⟨_, rfl⟩
      have HCP : Aside0 (canonP names curs pool hor cel slo sta days = if q1 = true then 121 else if q2 = true then 121 else if q3 = true then 121 else 0) := ⟨by
        unfold canonP
        rw [if_neg (by rw [HLB.out]; decide), hsp]
        unfold canonDays
        simp only [hq1, hq2, hq3]⟩
      rw [HCP.out]
      have C1 := Aside0.mk (fun W (h : Fr wr W []) => containsB_calls g1 b.1 W (h.blk HU.out.n1 (by simp)) (by have := HLN.out; omega) q1 hq1)
      have C2 := Aside0.mk (fun W (h : Fr wr W []) => containsB_calls g2 b.2.1 W (h.blk HU.out.n2 (by simp)) (by have := HLN.out; omega) q2 hq2)
      have C3 := Aside0.mk (fun W (h : Fr wr W []) => containsB_calls g3 b.2.2 W (h.blk HU.out.n3 (by simp)) (by have := HLN.out; omega) q3 hq3)
      have u0 : wr.cell? ⟨u, 0, none⟩ = some (.slice (some ⟨g1, 0, none⟩) b.1.length b.1.length) := blk_cell HU.out.blk 0
      have u1 : wr.cell? ⟨u, 1, none⟩ = some (.slice (some ⟨g2, 0, none⟩) b.2.1.length b.2.1.length) := blk_cell HU.out.blk 1
      have u2' : wr.cell? ⟨u, 2, none⟩ = some (.slice (some ⟨g3, 0, none⟩) b.2.2.length b.2.2.length) := blk_cell HU.out.blk 2
      have hul := blk_lt HU.out.blk
      clear hsp hq1 hq2 hq3
      go_wp2
      go_region_held3 (fun w' => w'.cell? ⟨u, 0, none⟩ = some (.slice (some ⟨g1, 0, none⟩) b.1.length b.1.length) ∧ w'.cell? ⟨u, 1, none⟩ = some (.slice (some ⟨g2, 0, none⟩) b.2.1.length b.2.1.length) ∧ w'.cell? ⟨u, 2, none⟩ = some (.slice (some ⟨g3, 0, none⟩) b.2.2.length b.2.2.length)) (first | (refine ⟨fr_at (L := []) u0 ?_ List.not_mem_nil, fr_at (L := []) u1 ?_ List.not_mem_nil, fr_at (L := []) u2' ?_ List.not_mem_nil⟩ <;> exact FQ) | go_keep) (fail)
      obtain ⟨wo, hwo⟩ : ∃ wo : World, wo = wr := ⟨_, rfl⟩
      subst hwo
      go_wp2
      go_loopg [79] 3 (fun kq x w3 => ∃ k : Nat, x = .int .i64 k ∧ k ≤ 3 ∧ Aside0 (3 - k ≤ kq) ∧ Aside0 (Fr wo w3 []) ∧ Aside0 (w3.heap[wo.heap.size]? = some (.cells #[.slice (some ⟨g1, 0, none⟩) b.1.length b.1.length, .slice (some ⟨g2, 0, none⟩) b.2.1.length b.2.1.length, .slice (some ⟨g3, 0, none⟩) b.2.2.length b.2.2.length] 102 (0, 0))) ∧ Aside0 (1 ≤ k → q1 = false) ∧ Aside0 (2 ≤ k → q2 = false) ∧ Aside0 (3 ≤ k → q3 = false))
      case atStart => exact ⟨0, rfl, by omega, ⟨Nat.le_refl _⟩, ⟨FQ⟩, ⟨blk_drew (blk_newN rfl)⟩, ⟨fun h => by omega⟩, ⟨fun h => by omega⟩, ⟨fun h => by omega⟩⟩
      case round =>
        obtain ⟨k, rfl, hk3, HM3, HFq, HSB, HA1, HA2, HA3⟩ := hrel
        clear u0 u1 u2' hul
        have hk4 : k = 0 ∨ k = 1 ∨ k = 2 ∨ k = 3 := by omega
        have C1' := C1.out
        have C2' := C2.out
        have C3' := C3.out
        rcases hk4 with rfl | rfl | rfl | rfl
        · have hck : wr.cell? ⟨wo.heap.size, 0, none⟩ = _ := blk_cell HSB.out 0
          have hsl := blk_lt HSB.out
          obtain ⟨qq, hqq⟩ : ∃ qq, q1 = qq := ⟨_, rfl⟩
          have HQ := Aside0.mk hqq
          rw [hqq] at C1'
          have C12 := Aside0.mk C1'
          clear hqq C1'
          cases qq
          · go_wp2_with (first | (go_at_call 45; (with_reducible refine (C12.out _ ?_).mono ?_); (next => exact HFq.out); rintro e W9 ⟨rfl, ⟨n9, rfl⟩⟩))
            go_roundg (3 - 1)
            case measure => have := HM3.out; omega
            case rel => exact ⟨1, rfl, by omega, ⟨by omega⟩, ⟨HFq.out.drewN _⟩, ⟨blk_drewN HSB.out _⟩, ⟨fun _ => HQ.out⟩, ⟨fun h => by omega⟩, ⟨fun h => by omega⟩⟩
          · go_wp2_with (first | (go_at_call 45; (with_reducible refine (C12.out _ ?_).mono ?_); (next => exact HFq.out); rintro e W9 ⟨rfl, ⟨n9, rfl⟩⟩))
            go_ret
            refine canon_end ?_ ((HF.out.trans HFq.out (by simp)).drewN _)
            rw [HCP.out]
            
            rw [if_pos HQ.out]
        · have hck : wr.cell? ⟨wo.heap.size, 1, none⟩ = _ := blk_cell HSB.out 1
          have hsl := blk_lt HSB.out
          obtain ⟨qq, hqq⟩ : ∃ qq, q2 = qq := ⟨_, rfl⟩
          have HQ := Aside0.mk hqq
          rw [hqq] at C2'
          have C22 := Aside0.mk C2'
          clear hqq C2'
          cases qq
          · go_wp2_with (first | (go_at_call 45; (with_reducible refine (C22.out _ ?_).mono ?_); (next => exact HFq.out); rintro e W9 ⟨rfl, ⟨n9, rfl⟩⟩))
            go_roundg (3 - 2)
            case measure => have := HM3.out; omega
            case rel => exact ⟨2, rfl, by omega, ⟨by omega⟩, ⟨HFq.out.drewN _⟩, ⟨blk_drewN HSB.out _⟩, ⟨fun _ => HA1.out (by omega)⟩, ⟨fun _ => HQ.out⟩, ⟨fun h => by omega⟩⟩
          · go_wp2_with (first | (go_at_call 45; (with_reducible refine (C22.out _ ?_).mono ?_); (next => exact HFq.out); rintro e W9 ⟨rfl, ⟨n9, rfl⟩⟩))
            go_ret
            refine canon_end ?_ ((HF.out.trans HFq.out (by simp)).drewN _)
            rw [HCP.out]
            rw [if_neg (by rw [HA1.out (by omega)]; decide)]
            rw [if_pos HQ.out]
        · have hck : wr.cell? ⟨wo.heap.size, 2, none⟩ = _ := blk_cell HSB.out 2
          have hsl := blk_lt HSB.out
          obtain ⟨qq, hqq⟩ : ∃ qq, q3 = qq := ⟨_, rfl⟩
          have HQ := Aside0.mk hqq
          rw [hqq] at C3'
          have C32 := Aside0.mk C3'
          clear hqq C3'
          cases qq
          · go_wp2_with (first | (go_at_call 45; (with_reducible refine (C32.out _ ?_).mono ?_); (next => exact HFq.out); rintro e W9 ⟨rfl, ⟨n9, rfl⟩⟩))
            go_roundg (3 - 3)
            case measure => have := HM3.out; omega
            case rel => exact ⟨3, rfl, by omega, ⟨by omega⟩, ⟨HFq.out.drewN _⟩, ⟨blk_drewN HSB.out _⟩, ⟨fun _ => HA1.out (by omega)⟩, ⟨fun _ => HA2.out (by omega)⟩, ⟨fun _ => HQ.out⟩⟩
          · go_wp2_with (first | (go_at_call 45; (with_reducible refine (C32.out _ ?_).mono ?_); (next => exact HFq.out); rintro e W9 ⟨rfl, ⟨n9, rfl⟩⟩))
            go_ret
            refine canon_end ?_ ((HF.out.trans HFq.out (by simp)).drewN _)
            rw [HCP.out]
            rw [if_neg (by rw [HA1.out (by omega)]; decide), if_neg (by rw [HA2.out (by omega)]; decide)]
            rw [if_pos HQ.out]
        · go_wp2
          go_ret
          refine canon_end ?_ (HF.out.trans HFq.out (by simp))
          rw [HCP.out]
          rw [if_neg (by rw [HA1.out (by omega)]; decide), if_neg (by rw [HA2.out (by omega)]; decide), if_neg (by rw [HA3.out (by omega)]; decide)]
end Go.Proofs.YtmfbdmjgkcijcaaDoor.H
