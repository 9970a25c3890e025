/- apply: keep, get; all together. -/
import Derived.Test.YtpoehkacfmljcaaGreatDoorZV
import Derived.Test.YtpoehkacfmljcaaGreatDoorZHP
set_option maxHeartbeats 4000000
set_option maxRecDepth 100000
namespace Go.Proofs.YtpoehkacfmljcaaGreatDoor.H
open Go.RowKit Go.Proofs.YtpoehkacfmljcaaGreatDoorW.PrintWords Go.Proofs.YtpoehkacfmljcaaGreatDoorW.PrintLast Go.Proofs.YtpoehkacfmljcaaGreatDoorW.PrintMore
open Go.ChangeMaps (setBlock)
attribute [local go_sem] max2_int min2_int max_two min_two max_three min_three max_four min_four
set_option linter.unusedVariables false
set_option linter.unusedSimpArgs false
theorem apply_keep (wt : Option Bool) (hwt : look wantsEs (6) = wt) (t u : Nat) (HE : ∀ W, TabW W → Calls Tryz.prog 158 #[.int .i64 (6)] W fun e w' => e = .returned (.tuple #[.int .i64 t, .int .i64 u, .int .i64 0]) ∧ Drawn0 W w') (ht3 : t ≤ 3) (hu1 : u ≤ 1) (A B day : Int) (p r clk : Nat) (v : Value) (xs : List Bool) (es : Es Bool) (w : World) (hs : St w p v r xs es clk) (hl : xs.length + 1 ≤ 140737488355328) (G : TabW w) (hbig : ∀ b ∈ p :: r :: v.ownBlock.toList, 3 < b) (hE : t ≤ xs.length) :
  Calls Tryz.prog 137 #[.pointer (some ⟨p, 0, none⟩), .agg #[.int .i64 (6), .int .i64 A, .int .i64 B], .int .i64 day] w (ApplyPost wt t u (6) A B day p r xs es v w) := by
 obtain ⟨SA, sc, rfl, hr⟩ := hs.row.slice
 have hlt := blk_lt hs.blk
 have c0 := blk_cell hs.blk 0
 have c1 := blk_cell hs.blk 1
 have HS0 := AsM hs
 have HG := AsM G
 have HE' := AsM HE
 have HW := AsM hwt
 have n1 : decide (xs.length < t) = false := by simp; omega
 have HNE : Aside0 (NE t (6) xs.length) := ⟨by unfold NE; omega⟩
 clear hs hr G HE hwt
 go_enter Tryz.func137, Tryz.ntmps137
 go_upto_region 4 with (first | (go_at_call 158; (with_reducible refine (HE'.out _ ?tab).mono ?_); (case tab => exact HG.out.fr0 FQ); rintro e w' ⟨rfl, ⟨nd, rfl⟩⟩))
 go_cut [43] (fun b wx => b = .bool false ∧ Aside0 (Fr w wx []) ∧ Aside0 (wx.heap[w.heap.size]? = some (.cells #[.int .i64 (6), .int .i64 A, .int .i64 B] 113 (0, 0))))
 case first =>
  go_wp2_with (first | (go_at_call 134; (refine (height_fr p _ _ _ _ HS0.out.blk (by (with_reducible (repeat (first | refine Fr.drew ?_ | refine Fr.drewN ?_ _ | refine Fr.alloc ?_ _ | refine Fr.setCell ?_ _ _ ?_))); exact Fr.refl _ _)).mono ?_); rintro e w' ⟨rfl, ⟨nd2, rfl⟩⟩))
  all_goals (
   go_meet
   refine ⟨?_, ⟨FQ⟩, ⟨(by (with_reducible (repeat (first | apply blk_drew | apply blk_alloc | apply blk_set))); exact blk_newN rfl)⟩⟩
   first | rfl | (simp [*]; done) | (simp; omega))
 case rest =>
 obtain ⟨rfl, HF, HBX⟩ := hcut
 clear n1
 go_upto_region 6 with fail
 go_cut [10, 11] (fun a b wx => ∃ g10 : Nat, a = .pointer (some ⟨g10, 0, none⟩) ∧ b = .bool wt.isSome ∧ Aside0 (wx.heap[g10]? = some (.cells #[.bool (wt.getD false)] 251 (0, 0))) ∧ w.heap.size < g10 ∧ Aside0 (Fr w wx []) ∧ Aside0 (wx.heap[w.heap.size]? = some (.cells #[.int .i64 (6), .int .i64 A, .int .i64 B] 113 (0, 0))))
 case first =>
  have HBC := blk_cell HBX.out 0
  have hbxlt := blk_lt HBX.out
  go_region_held3 (fun w' => w'.cell? ⟨w.heap.size, 0, none⟩ = some (.int .i64 (6))) (first | exact HBC9 | exact cell_far HBC9 (by simp; omega) | go_keep) (first | (go_simp; go_at_call 159; (refine (wants_calls _ (HG.out.fr0 (by (with_reducible (repeat (first | refine Fr.drew ?_ | refine Fr.drewN ?_ _ | refine Fr.alloc ?_ _ | refine Fr.setCell ?_ _ _ ?_))); exact HF.out))).mono ?_); rintro e w' ⟨r9, rfl, hF9, hM9, hr9⟩; have HF9 := AsM hF9; have HM9 := AsM hM9; have HB9 := AsM (hF9.blk (g := w.heap.size) (by (with_reducible (repeat (first | apply blk_drew | apply blk_alloc | apply blk_set))); exact HBX.out) (by simp)); have HBC9 := blk_cell HB9.out 0; have hb9lt := blk_lt HB9.out; have HBF9 := AsM ((Fr.trans HF.out (c := w') (M := []) (by refine Fr.trans (M := []) ?_ hF9 (by simp); (with_reducible (repeat (first | refine Fr.drew ?_ | refine Fr.drewN ?_ _ | refine Fr.alloc ?_ _ | refine Fr.setCell ?_ _ _ ?_))); exact Fr.refl _ _) (by simp))); (try (have HA9 := AsM (hF9.blk (g := wc.heap.size) (o := .cells #[.bool false] 251) (by first | exact blk_newN rfl | exact blk_drew (blk_newN rfl)) (by simp)); have HAC9 := blk_cell HA9.out 0; have HAZ9 := blk_frozen HA9.out 0)); have hlk := look_run (6) hM9; have hlk2 := look_run (6) (blk_alloc hM9 (.cells #[.bool false] 251)); rw [HW.out] at hlk hlk2; clear hF9 hM9))
  all_goals (
   go_wp2_with fail
   go_meet
   refine ⟨_, rfl, rfl, ⟨?_⟩, ?_, ⟨?_⟩, ⟨?_⟩⟩
   ·first | exact blk_newN rfl | exact blk_to (blk_set HA9.out 0 _) rfl
   ·first | exact hb9lt | exact hbxlt
   ·(with_reducible (repeat (first | refine Fr.drew ?_ | refine Fr.drewN ?_ _ | refine Fr.alloc ?_ _ | refine Fr.setCell ?_ _ _ ?_))) <;> first | exact HBF9.out | (simp; omega)
   ·first | exact blk_alloc HB9.out _ | exact at_far HB9.out (by simp; omega) _)
 case rest =>
 obtain ⟨g10, rfl, rfl, H10, h10, HF6, HB6⟩ := hcut
 clear HF HBX
 have HT6 := HG.out.fr0 HF6.out
 have t0 := HT6.num
 have t1 : 2 < wc.heap.size := by have := HT6.lt; omega
 clear HT6
 have hlt6 := blk_lt H10.out
 have hut := Tryz.underlying251
 go_wp2
 go_loopg [13, 53] t (fun kq a b wr => ∃ (j : Nat) (rem pop : List Bool) (v' : Value), a = .bool (wrongOf wt pop) ∧ b = .int .i64 j ∧ j ≤ t ∧ Aside0 (t - j ≤ kq) ∧ Aside0 (xs = rem ++ pop) ∧ Aside0 (pop.length = j) ∧ Aside0 (Fr w wr [p]) ∧ Aside0 (St wr p v' r rem es clk) ∧ Aside0 (v'.ownBlock = (Value.slice SA xs.length sc).ownBlock) ∧ Aside0 (wr.heap[wc.heap.size]? = some (.cells #[.bool (pop.headD false)] 251 (0, 0))) ∧ Aside0 (wr.heap[g10]? = some (.cells #[.bool (wt.getD false)] 251 (0, 0))) ∧ Aside0 (wr.heap[w.heap.size]? = some (.cells #[.int .i64 (6), .int .i64 A, .int .i64 B] 113 (0, 0))))
 case atStart => exact ⟨0, xs, [], _, (by cases wt <;> rfl), rfl, Nat.zero_le _, ⟨Nat.le_refl _⟩, ⟨by simp⟩, ⟨rfl⟩, ⟨(HF6.out.alloc _).mono (by simp)⟩, ⟨HS0.out.new (HF6.out.alloc _)⟩, ⟨rfl⟩, ⟨blk_newN rfl⟩, ⟨blk_alloc H10.out _⟩, ⟨blk_alloc HB6.out _⟩⟩
 case round =>
  obtain ⟨j, rem, pop, v', rfl, rfl, hj, HM, HX, HPL, HFr, HSt, HV', H12, H10r, HBr⟩ := hrel
  by_cases hjt : j < t
  ·obtain ⟨rem', x, rfl⟩ : ∃ rem' x, rem = rem' ++ [x] := by
    have h1 := HX.out; have h2 := HPL.out
    have : rem ≠ [] := by rintro rfl; simp at h1; subst h1; omega
    exact ⟨rem.dropLast, rem.getLast this, (List.dropLast_concat_getLast this).symm⟩
   have hne := HSt.out.row.ne HSt.out.blk (by decide)
   have n3 : decide (j < t) = true := by simpa using hjt
   have hg12 := blk_cell H12.out 0
   have hz12 := blk_frozen H12.out 0
   have hlt12 := blk_lt H12.out
   clear t0 t1
   cases wt with
   | none =>
    ·rw [show wrongOf none pop = false from rfl]
     go_wp2_with (first | (go_at_call 160; (refine (pop_agg p _ _ rem' x _ HSt.out.blk HSt.out.row).mono ?_); rintro e w' ⟨v2, rfl, hF2, hb2, hr2, ho2⟩; have HF2 := AsM hF2; have HS2 := AsM (HSt.out.popped hF2 hb2 hr2); have HO2 := AsM ho2; have H12b := AsM (hF2.blk H12.out (by simp; omega)); have hg12b := blk_cell H12b.out 0; have hz12b := blk_frozen H12b.out 0; have H10b := AsM (hF2.blk H10r.out (by simp; omega)); have hg10b := blk_cell H10b.out 0; have hlt10b := blk_lt H10b.out; clear hF2 hb2 hr2 ho2))
     go_roundg (t - (j + 1))
     case measure => have := HM.out; omega
     case rel =>
      have s6 := HF6.out.size
      have hr0 := blk_lt HS0.out.mp
      exact ⟨j + 1, rem', x :: pop, v2, rfl, by go_num, by omega, ⟨Nat.le_refl _⟩, ⟨by rw [HX.out]; simp⟩, ⟨by simp [HPL.out]⟩, ⟨(HFr.out.trans HF2.out (by simp)).setCell _ _ (.inr (by simpa using s6))⟩, ⟨HS2.out.fr (Fr.set _ _ _) (by simp; omega) (by simp; omega) (fun k hk => by rw [HO2.out, HV'.out] at hk; have := HS0.out.row.lt k hk; simp; omega)⟩, ⟨HO2.out.trans HV'.out⟩, ⟨blk_to (blk_set H12b.out 0 _) rfl⟩, ⟨at_far H10b.out (by simp; omega) _⟩, ⟨at_far (HF2.out.blk HBr.out (by simp; omega)) (by simp; omega) _⟩⟩
   | some b =>
    cases hw : wrongOf (some b) pop with
    | true =>
     go_wp2_with (first | (go_at_call 160; (refine (pop_agg p _ _ rem' x _ HSt.out.blk HSt.out.row).mono ?_); rintro e w' ⟨v2, rfl, hF2, hb2, hr2, ho2⟩; have HF2 := AsM hF2; have HS2 := AsM (HSt.out.popped hF2 hb2 hr2); have HO2 := AsM ho2; have H12b := AsM (hF2.blk H12.out (by simp; omega)); have hg12b := blk_cell H12b.out 0; have hz12b := blk_frozen H12b.out 0; have H10b := AsM (hF2.blk H10r.out (by simp; omega)); have hg10b := blk_cell H10b.out 0; have hlt10b := blk_lt H10b.out; clear hF2 hb2 hr2 ho2))
     go_roundg (t - (j + 1))
     case measure => have := HM.out; omega
     case rel =>
      have s6 := HF6.out.size
      have hr0 := blk_lt HS0.out.mp
      exact ⟨j + 1, rem', x :: pop, v2, by rw [show wrongOf (some b) (x :: pop) = ((x != b) || wrongOf (some b) pop) from rfl, hw]; simp, by go_num, by omega, ⟨Nat.le_refl _⟩, ⟨by rw [HX.out]; simp⟩, ⟨by simp [HPL.out]⟩, ⟨(HFr.out.trans HF2.out (by simp)).setCell _ _ (.inr (by simpa using s6))⟩, ⟨HS2.out.fr (Fr.set _ _ _) (by simp; omega) (by simp; omega) (fun k hk => by rw [HO2.out, HV'.out] at hk; have := HS0.out.row.lt k hk; simp; omega)⟩, ⟨HO2.out.trans HV'.out⟩, ⟨blk_to (blk_set H12b.out 0 _) rfl⟩, ⟨at_far H10b.out (by simp; omega) _⟩, ⟨at_far (HF2.out.blk HBr.out (by simp; omega)) (by simp; omega) _⟩⟩
    | false =>
     go_wp2_with (first | (go_at_call 160; (refine (pop_agg p _ _ rem' x _ HSt.out.blk HSt.out.row).mono ?_); rintro e w' ⟨v2, rfl, hF2, hb2, hr2, ho2⟩; have HF2 := AsM hF2; have HS2 := AsM (HSt.out.popped hF2 hb2 hr2); have HO2 := AsM ho2; have H12b := AsM (hF2.blk H12.out (by simp; omega)); have hg12b := blk_cell H12b.out 0; have hz12b := blk_frozen H12b.out 0; have H10b := AsM (hF2.blk H10r.out (by simp; omega)); have hg10b := blk_cell H10b.out 0; have hlt10b := blk_lt H10b.out; clear hF2 hb2 hr2 ho2))
     all_goals (
      go_roundg (t - (j + 1))
      case measure => have := HM.out; omega
      case rel =>
       have s6 := HF6.out.size
       have hr0 := blk_lt HS0.out.mp
       exact ⟨j + 1, rem', x :: pop, v2, by rw [show wrongOf (some b) (x :: pop) = ((x != b) || wrongOf (some b) pop) from rfl, hw]; simp [*], by go_num, by omega, ⟨Nat.le_refl _⟩, ⟨by rw [HX.out]; simp⟩, ⟨by simp [HPL.out]⟩, ⟨(HFr.out.trans HF2.out (by simp)).setCell _ _ (.inr (by simpa using s6))⟩, ⟨HS2.out.fr (Fr.set _ _ _) (by simp; omega) (by simp; omega) (fun k hk => by rw [HO2.out, HV'.out] at hk; have := HS0.out.row.lt k hk; simp; omega)⟩, ⟨HO2.out.trans HV'.out⟩, ⟨blk_to (blk_set H12b.out 0 _) (by first | rfl | simp [*])⟩, ⟨at_far H10b.out (by simp; omega) _⟩, ⟨at_far (HF2.out.blk HBr.out (by simp; omega)) (by simp; omega) _⟩⟩)
  ·obtain rfl : j = t := by omega
   have n3 : decide (j < j) = false := by simp
   have HD : Aside0 (xs.drop (xs.length - j) = pop) := ⟨by rw [HX.out, List.length_append, HPL.out, Nat.add_sub_cancel]; simp⟩
   have HK : Aside0 (xs.take (xs.length - j) = rem) := ⟨by rw [HX.out, List.length_append, HPL.out, Nat.add_sub_cancel]; simp⟩
   have hF' : Fr w wr (p :: (Value.slice SA xs.length sc).ownBlock.toList) := HFr.out.mono (by simp)
   have HF' := AsM hF'
   clear hF'
   obtain ⟨hgb, hgb1, hgb2⟩ := cc3 HBr.out
   have hltb := blk_lt HBr.out
   have hg12 := blk_cell H12.out 0
   clear t0 t1
   cases hw : wrongOf wt pop with
   | true =>
    go_wp2
    go_ret
    have e : applyE wt j (6) A B day xs (look es) = 143 := by unfold applyE; rw [if_neg (fun h => HNE.out h), HD.out, hw]; rfl
    exact ⟨by rw [e]; rfl, HF'.out.mid, fun h => absurd (e.symm.trans h) (by decide)⟩
   | false =>
    have HW2 : Aside0 (wrongOf wt pop = false) := ⟨hw⟩
    clear hw
    obtain ⟨tz, htz⟩ : ∃ tz : Bool, pop.headD false = tz := ⟨_, rfl⟩
    have h12 := H12.out
    rw [htz] at h12
    have cp1 := blk_cell HSt.out.blk 1
    have hltp := blk_lt HSt.out.blk
    obtain ⟨W2, hmu, hF2, hM2⟩ := put_run (w := wr.drew) (blk_drew HSt.out.mp) A tz
    have hrr := HSt.out.row.neMap HSt.out.mp
    have HSA : Aside0 (St W2 p v' r rem (put es A tz clk) (putClk es A clk)) := ⟨⟨hF2.blk HSt.out.blk (by simpa using HSt.out.ne_pr), HSt.out.row.drew.fr hF2 (fun k hk => by simpa using hrr k hk), hM2, HSt.out.good.put A _⟩⟩
    have hne12 : wc.heap.size ≠ r := by have := blk_lt HS0.out.mp; have := HF6.out.size; omega
    have c12 := blk_cell h12 0
    have b12 := hF2.blk (blk_drew h12) (by simpa using hne12)
    have d12 := blk_cell b12 0
    have HB12 := AsM b12
    have d1 := blk_cell (hF2.blk (blk_drew HSt.out.blk) (by simpa using HSt.out.ne_pr)) 1
    have HBX2 := AsM (hF2.blk (blk_drew HBr.out) (by have := blk_lt HS0.out.mp; simp; omega))
    have d2 := blk_cell HBX2.out 1
    have N12 : Aside0 (wc.heap.size ∉ p :: v'.ownBlock.toList) := ⟨by
     have := HF6.out.size
     intro hm
     rcases List.mem_cons.1 hm with h | h
     ·omega
     ·have h' : v'.ownBlock = some wc.heap.size := by simpa using h
      have := HS0.out.row.lt _ (HV'.out.symm.trans h'); omega⟩
    have HF2 := AsM hF2
    have HTZ := AsM htz
    clear hF2 hM2 hrr htz h12 hg12 b12
    go_wp2
    go_region_held3 (fun w' => w'.cell? ⟨p, 1, none⟩ = some (.map (some r)) ∧ w'.cell? ⟨w.heap.size, 1, none⟩ = some (.int .i64 A) ∧ w'.cell? ⟨wc.heap.size, 0, none⟩ = some (.bool tz)) (first | exact ⟨d1, d2, d12⟩ | go_keep) (fail)
    clear hmu
    go_wp2
    go_region_held3 (fun w' => w'.cell? ⟨wc.heap.size, 0, none⟩ = some (.bool tz)) (first | go_keep) (first | (go_simp; go_at_call 161; (refine (push_agg p _ _ rem _ _ HSA.out.drew.blk HSA.out.drew.row (by have h1 := congrArg List.length HX.out; have h2 := HPL.out; simp at h1 ⊢; omega)).mono ?_); rintro e w' ⟨v3, rfl, hF3, hb3, hr3, ho3⟩; have HS4 := AsM (HSA.out.drew.pushed hF3 hb3 hr3); have HO4 := AsM ho3; have HFS := AsM hF3; have hcB := fr_cell (o := 0) hF3 (b := wc.heap.size) (blk_lt HB12.out) N12.out; rw [show W2.drew.cell? ⟨wc.heap.size, 0, none⟩ = _ from d12] at hcB; clear hF3 hb3 hr3 ho3))
    go_wp2
    go_ret
    have e : applyE wt j 6 A B day xs (look es) = 0 := by
     unfold applyE
     rw [if_neg HNE.out, HD.out, HW2.out]
     simp
    refine ⟨by rw [e]; rfl, ?_, fun _ => ⟨v3, put es A tz clk, putClk es A clk, ?_, fun kk => ?_, ?_⟩⟩
    ·refine ((HF'.out.mid.drew.trans (c := W2) (M := [r]) HF2.out (fun i hi => .inl (by simp at hi; simp [hi]))).drew.trans (M := p :: v'.ownBlock.toList) HFS.out (fun i hi => .inl ?_))
     rcases List.mem_cons.1 hi with h | h
     ·simp [h]
     ·rw [HV'.out] at h; exact List.mem_cons_of_mem _ (List.mem_cons_of_mem _ h)
    ·rw [show applyX j u 6 A xs (look es) = rem ++ [tz] by unfold applyX; rw [HK.out, HD.out, HTZ.out]; simp]
     exact HS4.out
    ·unfold applyK
     rw [look_put, HD.out, HTZ.out]
     simp
    ·rcases HO4.out with h | ⟨g, h, hg⟩
     ·exact .inl (h.trans HV'.out)
     ·exact .inr ⟨g, h, Nat.le_trans (HF'.out.size) (Nat.le_trans HF2.out.size hg)⟩
theorem apply_get (wt : Option Bool) (hwt : look wantsEs (7) = wt) (t u : Nat) (HE : ∀ W, TabW W → Calls Tryz.prog 158 #[.int .i64 (7)] W fun e w' => e = .returned (.tuple #[.int .i64 t, .int .i64 u, .int .i64 0]) ∧ Drawn0 W w') (ht3 : t ≤ 3) (hu1 : u ≤ 1) (A B day : Int) (p r clk : Nat) (v : Value) (xs : List Bool) (es : Es Bool) (w : World) (hs : St w p v r xs es clk) (hl : xs.length + 1 ≤ 140737488355328) (G : TabW w) (hbig : ∀ b ∈ p :: r :: v.ownBlock.toList, 3 < b) (hE : t ≤ xs.length) :
  Calls Tryz.prog 137 #[.pointer (some ⟨p, 0, none⟩), .agg #[.int .i64 (7), .int .i64 A, .int .i64 B], .int .i64 day] w (ApplyPost wt t u (7) A B day p r xs es v w) := by
 obtain ⟨SA, sc, rfl, hr⟩ := hs.row.slice
 have hlt := blk_lt hs.blk
 have c0 := blk_cell hs.blk 0
 have c1 := blk_cell hs.blk 1
 have HS0 := AsM hs
 have HG := AsM G
 have HE' := AsM HE
 have HW := AsM hwt
 have n1 : decide (xs.length < t) = false := by simp; omega
 have HNE : Aside0 (NE t (7) xs.length) := ⟨by unfold NE; omega⟩
 clear hs hr G HE hwt
 go_enter Tryz.func137, Tryz.ntmps137
 go_upto_region 4 with (first | (go_at_call 158; (with_reducible refine (HE'.out _ ?tab).mono ?_); (case tab => exact HG.out.fr0 FQ); rintro e w' ⟨rfl, ⟨nd, rfl⟩⟩))
 go_cut [43] (fun b wx => b = .bool false ∧ Aside0 (Fr w wx []) ∧ Aside0 (wx.heap[w.heap.size]? = some (.cells #[.int .i64 (7), .int .i64 A, .int .i64 B] 113 (0, 0))))
 case first =>
  go_wp2_with (first | (go_at_call 134; (refine (height_fr p _ _ _ _ HS0.out.blk (by (with_reducible (repeat (first | refine Fr.drew ?_ | refine Fr.drewN ?_ _ | refine Fr.alloc ?_ _ | refine Fr.setCell ?_ _ _ ?_))); exact Fr.refl _ _)).mono ?_); rintro e w' ⟨rfl, ⟨nd2, rfl⟩⟩))
  all_goals (
   go_meet
   refine ⟨?_, ⟨FQ⟩, ⟨(by (with_reducible (repeat (first | apply blk_drew | apply blk_alloc | apply blk_set))); exact blk_newN rfl)⟩⟩
   first | rfl | (simp [*]; done) | (simp; omega))
 case rest =>
 obtain ⟨rfl, HF, HBX⟩ := hcut
 clear n1
 go_upto_region 6 with fail
 go_cut [10, 11] (fun a b wx => ∃ g10 : Nat, a = .pointer (some ⟨g10, 0, none⟩) ∧ b = .bool wt.isSome ∧ Aside0 (wx.heap[g10]? = some (.cells #[.bool (wt.getD false)] 251 (0, 0))) ∧ w.heap.size < g10 ∧ Aside0 (Fr w wx []) ∧ Aside0 (wx.heap[w.heap.size]? = some (.cells #[.int .i64 (7), .int .i64 A, .int .i64 B] 113 (0, 0))))
 case first =>
  have HBC := blk_cell HBX.out 0
  have hbxlt := blk_lt HBX.out
  go_region_held3 (fun w' => w'.cell? ⟨w.heap.size, 0, none⟩ = some (.int .i64 (7))) (first | exact HBC9 | exact cell_far HBC9 (by simp; omega) | go_keep) (first | (go_simp; go_at_call 159; (refine (wants_calls _ (HG.out.fr0 (by (with_reducible (repeat (first | refine Fr.drew ?_ | refine Fr.drewN ?_ _ | refine Fr.alloc ?_ _ | refine Fr.setCell ?_ _ _ ?_))); exact HF.out))).mono ?_); rintro e w' ⟨r9, rfl, hF9, hM9, hr9⟩; have HF9 := AsM hF9; have HM9 := AsM hM9; have HB9 := AsM (hF9.blk (g := w.heap.size) (by (with_reducible (repeat (first | apply blk_drew | apply blk_alloc | apply blk_set))); exact HBX.out) (by simp)); have HBC9 := blk_cell HB9.out 0; have hb9lt := blk_lt HB9.out; have HBF9 := AsM ((Fr.trans HF.out (c := w') (M := []) (by refine Fr.trans (M := []) ?_ hF9 (by simp); (with_reducible (repeat (first | refine Fr.drew ?_ | refine Fr.drewN ?_ _ | refine Fr.alloc ?_ _ | refine Fr.setCell ?_ _ _ ?_))); exact Fr.refl _ _) (by simp))); (try (have HA9 := AsM (hF9.blk (g := wc.heap.size) (o := .cells #[.bool false] 251) (by first | exact blk_newN rfl | exact blk_drew (blk_newN rfl)) (by simp)); have HAC9 := blk_cell HA9.out 0; have HAZ9 := blk_frozen HA9.out 0)); have hlk := look_run (7) hM9; have hlk2 := look_run (7) (blk_alloc hM9 (.cells #[.bool false] 251)); rw [HW.out] at hlk hlk2; clear hF9 hM9))
  all_goals (
   go_wp2_with fail
   go_meet
   refine ⟨_, rfl, rfl, ⟨?_⟩, ?_, ⟨?_⟩, ⟨?_⟩⟩
   ·first | exact blk_newN rfl | exact blk_to (blk_set HA9.out 0 _) rfl
   ·first | exact hb9lt | exact hbxlt
   ·(with_reducible (repeat (first | refine Fr.drew ?_ | refine Fr.drewN ?_ _ | refine Fr.alloc ?_ _ | refine Fr.setCell ?_ _ _ ?_))) <;> first | exact HBF9.out | (simp; omega)
   ·first | exact blk_alloc HB9.out _ | exact at_far HB9.out (by simp; omega) _)
 case rest =>
 obtain ⟨g10, rfl, rfl, H10, h10, HF6, HB6⟩ := hcut
 clear HF HBX
 have HT6 := HG.out.fr0 HF6.out
 have t0 := HT6.num
 have t1 : 2 < wc.heap.size := by have := HT6.lt; omega
 clear HT6
 have hlt6 := blk_lt H10.out
 have hut := Tryz.underlying251
 go_wp2
 go_loopg [13, 53] t (fun kq a b wr => ∃ (j : Nat) (rem pop : List Bool) (v' : Value), a = .bool (wrongOf wt pop) ∧ b = .int .i64 j ∧ j ≤ t ∧ Aside0 (t - j ≤ kq) ∧ Aside0 (xs = rem ++ pop) ∧ Aside0 (pop.length = j) ∧ Aside0 (Fr w wr [p]) ∧ Aside0 (St wr p v' r rem es clk) ∧ Aside0 (v'.ownBlock = (Value.slice SA xs.length sc).ownBlock) ∧ Aside0 (wr.heap[wc.heap.size]? = some (.cells #[.bool (pop.headD false)] 251 (0, 0))) ∧ Aside0 (wr.heap[g10]? = some (.cells #[.bool (wt.getD false)] 251 (0, 0))) ∧ Aside0 (wr.heap[w.heap.size]? = some (.cells #[.int .i64 (7), .int .i64 A, .int .i64 B] 113 (0, 0))))
 case atStart => exact ⟨0, xs, [], _, (by cases wt <;> rfl), rfl, Nat.zero_le _, ⟨Nat.le_refl _⟩, ⟨by simp⟩, ⟨rfl⟩, ⟨(HF6.out.alloc _).mono (by simp)⟩, ⟨HS0.out.new (HF6.out.alloc _)⟩, ⟨rfl⟩, ⟨blk_newN rfl⟩, ⟨blk_alloc H10.out _⟩, ⟨blk_alloc HB6.out _⟩⟩
 case round =>
  obtain ⟨j, rem, pop, v', rfl, rfl, hj, HM, HX, HPL, HFr, HSt, HV', H12, H10r, HBr⟩ := hrel
  by_cases hjt : j < t
  ·obtain ⟨rem', x, rfl⟩ : ∃ rem' x, rem = rem' ++ [x] := by
    have h1 := HX.out; have h2 := HPL.out
    have : rem ≠ [] := by rintro rfl; simp at h1; subst h1; omega
    exact ⟨rem.dropLast, rem.getLast this, (List.dropLast_concat_getLast this).symm⟩
   have hne := HSt.out.row.ne HSt.out.blk (by decide)
   have n3 : decide (j < t) = true := by simpa using hjt
   have hg12 := blk_cell H12.out 0
   have hz12 := blk_frozen H12.out 0
   have hlt12 := blk_lt H12.out
   clear t0 t1
   cases wt with
   | none =>
    ·rw [show wrongOf none pop = false from rfl]
     go_wp2_with (first | (go_at_call 160; (refine (pop_agg p _ _ rem' x _ HSt.out.blk HSt.out.row).mono ?_); rintro e w' ⟨v2, rfl, hF2, hb2, hr2, ho2⟩; have HF2 := AsM hF2; have HS2 := AsM (HSt.out.popped hF2 hb2 hr2); have HO2 := AsM ho2; have H12b := AsM (hF2.blk H12.out (by simp; omega)); have hg12b := blk_cell H12b.out 0; have hz12b := blk_frozen H12b.out 0; have H10b := AsM (hF2.blk H10r.out (by simp; omega)); have hg10b := blk_cell H10b.out 0; have hlt10b := blk_lt H10b.out; clear hF2 hb2 hr2 ho2))
     go_roundg (t - (j + 1))
     case measure => have := HM.out; omega
     case rel =>
      have s6 := HF6.out.size
      have hr0 := blk_lt HS0.out.mp
      exact ⟨j + 1, rem', x :: pop, v2, rfl, by go_num, by omega, ⟨Nat.le_refl _⟩, ⟨by rw [HX.out]; simp⟩, ⟨by simp [HPL.out]⟩, ⟨(HFr.out.trans HF2.out (by simp)).setCell _ _ (.inr (by simpa using s6))⟩, ⟨HS2.out.fr (Fr.set _ _ _) (by simp; omega) (by simp; omega) (fun k hk => by rw [HO2.out, HV'.out] at hk; have := HS0.out.row.lt k hk; simp; omega)⟩, ⟨HO2.out.trans HV'.out⟩, ⟨blk_to (blk_set H12b.out 0 _) rfl⟩, ⟨at_far H10b.out (by simp; omega) _⟩, ⟨at_far (HF2.out.blk HBr.out (by simp; omega)) (by simp; omega) _⟩⟩
   | some b =>
    cases hw : wrongOf (some b) pop with
    | true =>
     go_wp2_with (first | (go_at_call 160; (refine (pop_agg p _ _ rem' x _ HSt.out.blk HSt.out.row).mono ?_); rintro e w' ⟨v2, rfl, hF2, hb2, hr2, ho2⟩; have HF2 := AsM hF2; have HS2 := AsM (HSt.out.popped hF2 hb2 hr2); have HO2 := AsM ho2; have H12b := AsM (hF2.blk H12.out (by simp; omega)); have hg12b := blk_cell H12b.out 0; have hz12b := blk_frozen H12b.out 0; have H10b := AsM (hF2.blk H10r.out (by simp; omega)); have hg10b := blk_cell H10b.out 0; have hlt10b := blk_lt H10b.out; clear hF2 hb2 hr2 ho2))
     go_roundg (t - (j + 1))
     case measure => have := HM.out; omega
     case rel =>
      have s6 := HF6.out.size
      have hr0 := blk_lt HS0.out.mp
      exact ⟨j + 1, rem', x :: pop, v2, by rw [show wrongOf (some b) (x :: pop) = ((x != b) || wrongOf (some b) pop) from rfl, hw]; simp, by go_num, by omega, ⟨Nat.le_refl _⟩, ⟨by rw [HX.out]; simp⟩, ⟨by simp [HPL.out]⟩, ⟨(HFr.out.trans HF2.out (by simp)).setCell _ _ (.inr (by simpa using s6))⟩, ⟨HS2.out.fr (Fr.set _ _ _) (by simp; omega) (by simp; omega) (fun k hk => by rw [HO2.out, HV'.out] at hk; have := HS0.out.row.lt k hk; simp; omega)⟩, ⟨HO2.out.trans HV'.out⟩, ⟨blk_to (blk_set H12b.out 0 _) rfl⟩, ⟨at_far H10b.out (by simp; omega) _⟩, ⟨at_far (HF2.out.blk HBr.out (by simp; omega)) (by simp; omega) _⟩⟩
    | false =>
     go_wp2_with (first | (go_at_call 160; (refine (pop_agg p _ _ rem' x _ HSt.out.blk HSt.out.row).mono ?_); rintro e w' ⟨v2, rfl, hF2, hb2, hr2, ho2⟩; have HF2 := AsM hF2; have HS2 := AsM (HSt.out.popped hF2 hb2 hr2); have HO2 := AsM ho2; have H12b := AsM (hF2.blk H12.out (by simp; omega)); have hg12b := blk_cell H12b.out 0; have hz12b := blk_frozen H12b.out 0; have H10b := AsM (hF2.blk H10r.out (by simp; omega)); have hg10b := blk_cell H10b.out 0; have hlt10b := blk_lt H10b.out; clear hF2 hb2 hr2 ho2))
     all_goals (
      go_roundg (t - (j + 1))
      case measure => have := HM.out; omega
      case rel =>
       have s6 := HF6.out.size
       have hr0 := blk_lt HS0.out.mp
       exact ⟨j + 1, rem', x :: pop, v2, by rw [show wrongOf (some b) (x :: pop) = ((x != b) || wrongOf (some b) pop) from rfl, hw]; simp [*], by go_num, by omega, ⟨Nat.le_refl _⟩, ⟨by rw [HX.out]; simp⟩, ⟨by simp [HPL.out]⟩, ⟨(HFr.out.trans HF2.out (by simp)).setCell _ _ (.inr (by simpa using s6))⟩, ⟨HS2.out.fr (Fr.set _ _ _) (by simp; omega) (by simp; omega) (fun k hk => by rw [HO2.out, HV'.out] at hk; have := HS0.out.row.lt k hk; simp; omega)⟩, ⟨HO2.out.trans HV'.out⟩, ⟨blk_to (blk_set H12b.out 0 _) (by first | rfl | simp [*])⟩, ⟨at_far H10b.out (by simp; omega) _⟩, ⟨at_far (HF2.out.blk HBr.out (by simp; omega)) (by simp; omega) _⟩⟩)
  ·obtain rfl : j = t := by omega
   have n3 : decide (j < j) = false := by simp
   have HD : Aside0 (xs.drop (xs.length - j) = pop) := ⟨by rw [HX.out, List.length_append, HPL.out, Nat.add_sub_cancel]; simp⟩
   have HK : Aside0 (xs.take (xs.length - j) = rem) := ⟨by rw [HX.out, List.length_append, HPL.out, Nat.add_sub_cancel]; simp⟩
   have hF' : Fr w wr (p :: (Value.slice SA xs.length sc).ownBlock.toList) := HFr.out.mono (by simp)
   have HF' := AsM hF'
   clear hF'
   obtain ⟨hgb, hgb1, hgb2⟩ := cc3 HBr.out
   have hltb := blk_lt HBr.out
   have hg12 := blk_cell H12.out 0
   clear t0 t1
   cases hw : wrongOf wt pop with
   | true =>
    go_wp2
    go_ret
    have e : applyE wt j (7) A B day xs (look es) = 143 := by unfold applyE; rw [if_neg (fun h => HNE.out h), HD.out, hw]; rfl
    exact ⟨by rw [e]; rfl, HF'.out.mid, fun h => absurd (e.symm.trans h) (by decide)⟩
   | false =>
    have HW2 : Aside0 (wrongOf wt pop = false) := ⟨hw⟩
    clear hw
    have cp1 := blk_cell HSt.out.blk 1
    have hltp := blk_lt HSt.out.blk
    clear hg12
    cases hla : look es A with
    | none =>
     have hlk := look_run A (blk_drew HSt.out.mp)
     have hlk2 := look_run A (blk_drew (blk_alloc HSt.out.mp (.cells #[.bool false] 251)))
     rw [hla] at hlk hlk2
     go_wp2
     go_region_held3 (fun w' => w'.cell? ⟨p, 1, none⟩ = some (.map (some r)) ∧ w'.cell? ⟨w.heap.size, 1, none⟩ = some (.int .i64 A)) (go_keep) (fail)
     all_goals (
      go_wp2
      go_ret
      have e : applyE wt j 7 A B day xs (look es) = 144 := by
       unfold applyE
       rw [if_neg HNE.out, HD.out, HW2.out]
       simp [hla]
      exact ⟨by rw [e]; rfl, (HF'.out.mid.alloc _).drew, fun h => absurd (e.symm.trans h) (by decide)⟩)
    | some bk =>
     have hlk := look_run A (blk_drew HSt.out.mp)
     have hlk2 := look_run A (blk_drew (blk_alloc HSt.out.mp (.cells #[.bool false] 251)))
     rw [hla] at hlk hlk2
     have hg14 : (wr.alloc (.cells #[.bool bk] 251)).drew.cell? ⟨wr.heap.size, 0, none⟩ = some (.bool bk) := blk_cell (blk_drew (blk_newN (w := wr) (o := .cells #[.bool bk] 251) rfl)) 0
     have N14 : Aside0 (wr.heap.size ∉ p :: v'.ownBlock.toList) := ⟨by
      intro hm
      rcases List.mem_cons.1 hm with h | h
      ·omega
      ·have h' : v'.ownBlock = some wr.heap.size := by simpa using h
       have := HSt.out.row.lt _ h'; omega⟩
     have HSA : Aside0 (St (wr.alloc (.cells #[.bool bk] 251)).drew.drew p v' r rem es clk) := ⟨HSt.out.new FQ⟩
     go_wp2
     go_region_held3 (fun w' => w'.cell? ⟨p, 1, none⟩ = some (.map (some r)) ∧ w'.cell? ⟨w.heap.size, 1, none⟩ = some (.int .i64 A)) (go_keep) (fail)
     all_goals (
      clear hlk hlk2
      go_wp2
      go_region_held3 (fun w' => w'.cell? ⟨wr.heap.size, 0, none⟩ = some (.bool bk)) (first | exact hcB | go_keep) (first | (go_simp; go_at_call 161; (refine (push_agg p _ _ rem _ _ HSA.out.blk HSA.out.row (by have h1 := congrArg List.length HX.out; have h2 := HPL.out; simp at h1 ⊢; omega)).mono ?_); rintro e w' ⟨v3, rfl, hF3, hb3, hr3, ho3⟩; have HS4 := AsM (HSA.out.pushed hF3 hb3 hr3); have HO4 := AsM ho3; have HFS := AsM hF3; have hcB := (fr_cell (o := 0) hF3 (b := wr.heap.size) (by simp) N14.out).trans hg14; clear hF3 hb3 hr3 ho3))
      all_goals (
       go_wp2
       go_ret
       have e : applyE wt j 7 A B day xs (look es) = 0 := by
        unfold applyE
        rw [if_neg HNE.out, HD.out, HW2.out]
        simp [hla]
       refine ⟨by rw [e]; rfl, ?_, fun _ => ⟨v3, es, clk, ?_, fun kk => ?_, ?_⟩⟩
       ·refine (Fr.trans (M := p :: v'.ownBlock.toList) (b := (wr.alloc (.cells #[.bool bk] 251)).drew.drew) (((HF'.out.mid.alloc _).drew).drew) HFS.out (fun i hi => .inl ?_))
        rcases List.mem_cons.1 hi with h | h
        ·simp [h]
        ·rw [HV'.out] at h; exact List.mem_cons_of_mem _ (List.mem_cons_of_mem _ h)
       ·rw [show applyX j u 7 A xs (look es) = rem ++ [bk] by unfold applyX; rw [HK.out, hla]; simp]
        exact HS4.out
       ·unfold applyK
        simp
       ·rcases HO4.out with h | ⟨g, h, hg⟩
        ·exact .inl (h.trans HV'.out)
        ·have := HF'.out.size
         exact .inr ⟨g, h, by simp at hg; omega⟩))
theorem apply_short (op : Int) (t u : Nat) (HE : ∀ W, TabW W → Calls Tryz.prog 158 #[.int .i64 op] W fun e w' => e = .returned (.tuple #[.int .i64 t, .int .i64 u, .int .i64 0]) ∧ Drawn0 W w') (A B day : Int) (p r clk : Nat) (v : Value) (xs : List Bool) (es : Es Bool) (w : World) (hs : St w p v r xs es clk) (G : TabW w) (hc : decide (xs.length < t) = true ∨ (decide (xs.length < t) = false ∧ op = 0 ∧ decide (0 < xs.length) = true)) :
  Calls Tryz.prog 137 #[.pointer (some ⟨p, 0, none⟩), .agg #[.int .i64 op, .int .i64 A, .int .i64 B], .int .i64 day] w fun e w' => e = .returned (.int .i64 142) ∧ Fr w w' [] := by
 obtain ⟨SA, sc, rfl, hr⟩ := hs.row.slice
 have hlt := blk_lt hs.blk
 have c0 := blk_cell hs.blk 0
 have c1 := blk_cell hs.blk 1
 have HS0 := AsM hs
 have HG := AsM G
 have HE' := AsM HE
 clear hs hr G HE
 rcases hc with n1 | ⟨n1, rfl, n2⟩
 all_goals (
  go_enter Tryz.func137, Tryz.ntmps137
  go_wp2_with (first | (go_at_call 158; (refine (HE'.out _ (HG.out.fr0 FQ)).mono ?_); rintro e w' ⟨rfl, ⟨nd, rfl⟩⟩) | (go_at_call 134; (refine (height_fr p _ _ _ _ HS0.out.blk (by (with_reducible (repeat (first | refine Fr.drew ?_ | refine Fr.drewN ?_ _ | refine Fr.alloc ?_ _ | refine Fr.setCell ?_ _ _ ?_))); exact Fr.refl _ _)).mono ?_); rintro e w' ⟨rfl, ⟨nd2, rfl⟩⟩))
  go_ret
  exact ⟨rfl, FQ⟩)
def kT (op : Int) : Nat := (kRow op.toNat).2.2.2.2.1.toNat
def kP (op : Int) : Nat := (kRow op.toNat).2.2.2.2.2.toNat
theorem kTP : ∀ i, i < 29 → (kRow i).2.2.2.2.1 = (kT i : Int) ∧ (kRow i).2.2.2.2.2 = (kP i : Int) ∧ kT i ≤ 3 ∧ kP i ≤ 1 := by
 have h : ∀ i : Fin 29, (kRow i).2.2.2.2.1 = (kT ((i : Nat) : Int) : Int) ∧ (kRow i).2.2.2.2.2 = (kP ((i : Nat) : Int) : Int) ∧ kT ((i : Nat) : Int) ≤ 3 ∧ kP ((i : Nat) : Int) ≤ 1 := by decide
 intro i hi
 exact h ⟨i, hi⟩
theorem apply_calls (op A B day : Int) (hop : 0 ≤ op ∧ op < 29) (p r clk : Nat) (v : Value) (xs : List Bool) (es : Es Bool) (w : World) (hs : St w p v r xs es clk) (hl : xs.length + 1 ≤ 140737488355328) (G : TabW w) (hbig : ∀ b ∈ p :: r :: v.ownBlock.toList, 3 < b) :
  Calls Tryz.prog 137 #[.pointer (some ⟨p, 0, none⟩), .agg #[.int .i64 op, .int .i64 A, .int .i64 B], .int .i64 day] w (ApplyPost (look wantsEs op) (kT op) (kP op) op A B day p r xs es v w) := by
 obtain ⟨i, rfl⟩ : ∃ i : Nat, op = i := ⟨op.toNat, by omega⟩
 have hi : i < 29 := by omega
 obtain ⟨h1, h2, h3, h4⟩ := kTP i hi
 have HE : ∀ W, TabW W → Calls Tryz.prog 158 #[.int .i64 i] W fun e w' => e = .returned (.tuple #[.int .i64 (kT i), .int .i64 (kP i), .int .i64 0]) ∧ Drawn0 W w' := fun W hW => by
  have := effect_calls i hi W hW
  rw [h1, h2] at this
  exact this
 by_cases hE : xs.length < kT i ∨ ((i : Int) = 0 ∧ 0 < xs.length)
 ·refine (apply_short i (kT i) (kP i) HE A B day p r clk v xs es w hs G ?_).mono ?_
  ·by_cases h : xs.length < kT i
   ·exact .inl (by simpa using h)
   ·exact .inr ⟨by simpa using h, (hE.resolve_left h).1, by simpa using (hE.resolve_left h).2⟩
  ·rintro e w' ⟨rfl, hf⟩
   have e : applyE (look wantsEs i) (kT i) i A B day xs (look es) = 142 := by unfold applyE; rw [if_pos hE]
   exact ⟨by rw [e], hf.mono (by simp), fun h => absurd (e.symm.trans h) (by decide)⟩
 ·have hE1 : kT i ≤ xs.length := by omega
  by_cases k0 : i = 0
  ·subst k0
   exact apply_end _ rfl _ _ HE h3 h4 A B day p r clk v xs es w hs hl G hbig hE1 (by omega)
  by_cases k3 : i = 3
  ·subst k3
   exact apply_obs _ rfl _ _ HE h3 h4 A B day p r clk v xs es w hs hl G hbig hE1
  by_cases k6 : i = 6
  ·subst k6
   exact apply_keep _ rfl _ _ HE h3 h4 A B day p r clk v xs es w hs hl G hbig hE1
  by_cases k7 : i = 7
  ·subst k7
   exact apply_get _ rfl _ _ HE h3 h4 A B day p r clk v xs es w hs hl G hbig hE1
  exact apply_any i _ rfl _ _ HE h3 h4 A B day p r clk v xs es w hs hl G hbig hE1 (by simp; omega) (by simp; omega) (by simp; omega) (by simp; omega)
end Go.Proofs.YtpoehkacfmljcaaGreatDoor.H
