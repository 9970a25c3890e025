/- The reference's Verify: printed by mkRN.py. -/
import Derived.Test.YtpoehkacfmljcaaGreatDoorZV
import Derived.Test.YtpoehkacfmljcaaGreatDoorZRM
set_option maxHeartbeats 4000000
set_option maxRecDepth 100000
namespace Go.Proofs.YtpoehkacfmljcaaGreatDoor.H
open Go.RowKit Go.Proofs.YtpoehkacfmljcaaGreatDoorW.PrintWords Go.Proofs.YtpoehkacfmljcaaGreatDoorW.PrintLast Go.Proofs.YtpoehkacfmljcaaGreatDoorW.PrintMore
open Go.ChangeMaps (setBlock)
attribute [local go_sem] max2_int min2_int max_two min_two max_three min_three max_four min_four
set_option linter.unusedVariables false
set_option linter.unusedSimpArgs false
open Go.Proofs.YtpoehkacfmljcaaGreatDoor.M
theorem rVerify_calls (A0 : Option Addr) (c0 : Nat) (names : List ByteArray) (A1 : Option Addr) (c1 : Nat) (curs : List ByteArray) (A2 : Option Addr) (c2 : Nat) (pool : List Int) (hor cel slo sta : Int) (A7 : Option Addr) (c7 : Nat) (days : List S54) (w : World) (hr0 : Kd.C Kd.string w A0 names.length names) (hc0 : names.length ≤ c0) (hr1 : Kd.C Kd.string w A1 curs.length curs) (hc1 : curs.length ≤ c1) (hr2 : Kd.C (Kd.int .i64) w A2 pool.length pool) (hr7 : Kd.C k54 w A7 days.length days) (hc7 : days.length ≤ c7) (hdl : ∀ s ∈ days, s.f1.length ≤ 10000000000000) (hsz : ∀ s ∈ names, s.size ≤ 9223372036854775806) (G : TabW w) :
  Calls Tryz.prog 72 #[.agg #[.slice A0 names.length c0, .slice A1 curs.length c1, .slice A2 pool.length c2, .int .i64 hor, .int .i64 cel, .int .i64 slo, .int .i64 sta, .slice A7 days.length c7]] w (VerRPost (verifyR names curs pool hor cel slo sta days) w) := by
 obtain ⟨R, hR⟩ : ∃ x, verifyR names curs pool hor cel slo sta days = x := ⟨_, rfl⟩
 rw [hR]
 obtain ⟨cr, hcr⟩ : ∃ x, canonP names curs pool hor cel slo sta days = x := ⟨_, rfl⟩
 have CC : Aside0 (∀ W, Fr w W [] → Calls Tryz.prog 75 #[.agg #[.slice A0 names.length c0, .slice A1 curs.length c1, .slice A2 pool.length c2, .int .i64 hor, .int .i64 cel, .int .i64 slo, .int .i64 sta, .slice A7 days.length c7]] W (CanonPost cr W)) := ⟨fun W h => hcr ▸ rCanon_calls A0 c0 names A1 c1 curs A2 c2 pool hor cel slo sta A7 c7 days W (Kd.C_below hr0 h.below) hc0 (Kd.C_below hr1 h.below) hc1 (Kd.C_below hr2 h.below) (Kd.C_below hr7 h.below) hc7 hdl hsz (G.fr0 h)⟩
 have HC7 := AsM hr7
 have hd63 := Kd.C_max hr7
 have HG := AsM G
 have HCR := AsM hcr
 have HR := AsM hR
 clear hr0 hr1 hr2 hr7 G hdl hsz hR hcr
 have hup := Tryz.underlying26
 have huq := Tryz.underlying76
 have hut := Tryz.underlying54
 have hui := Tryz.underlying113
 have hus := Tryz.underlying175
 by_cases hz : cr = 0
 case neg =>
  have hz1 : (cr == 0) = false := by simpa using hz
  have hz2 : (cr != 0) = true := by simpa using hz
  have HRE : Aside0 (R.1 = cr) := ⟨by rw [← HR.out]; unfold verifyR; rw [if_pos (by rw [HCR.out]; exact hz)]; exact HCR.out⟩
  have HZ := AsM hz
  clear hz
  go_enter Tryz.func72, Tryz.ntmps72
  go_wp2_with (first | (go_at_call 75; (with_reducible refine (CC.out _ ?_).mono ?_); (next => exact FQ); rintro e W1 ⟨rfl, hF1⟩; have HB1 := AsM (hF1.blk (g := w.heap.size + 1) (blk_newN (by simp)) (by simp)); have HX1 := AsM (hF1.blk (g := w.heap.size) (blk_alloc (blk_newN rfl) _) (by simp)); have HF1 : Aside0 (Fr w W1 []) := ⟨Fr.trans (M := []) FQ hF1 (by simp)⟩; have hbl := blk_lt HB1.out; obtain ⟨v0, v1, v2⟩ := cc3 HB1.out; have z0 := blk_frozen HB1.out 0; have z1 := blk_frozen HB1.out 1; have z2 := blk_frozen HB1.out 2; clear hF1))
  refine bodyPost_ret (results_list (rs := [.cell 2 76, .tmp 3, .tmp 4, .tmp 5]) rfl (by simp) (.cell (w.heap.size + 1) 76 #[.int .i64 0, .int .i64 0, .int .i64 0] (0, 0) _ rfl ?hb huq rfl rfl (.tmp (.tmp (.tmp .nil))))) rfl ?_
  case hb => exact blk_to (blk_set (blk_set (blk_set HB1.out 0 _) 1 _) 2 _) rfl
  exact verR_err HRE.out (by (with_reducible (repeat (first | exact Fr.refl _ _ | refine Fr.drew ?_ | refine Fr.drewN ?_ _ | refine Fr.alloc ?_ _ | refine Fr.setCell ?_ _ _ ?_))) <;> first | exact HF1.out | simp) HZ.out
 case pos =>
  subst hz
  obtain ⟨hlb, hdn, hok⟩ := canonP_ok HCR.out
  have HOK := AsM hok
  have HEN := AsM (canonP_end HCR.out)
  have HR2 : Aside0 (R = if (refDays days acc0).1 ≠ 0 then refDays days acc0 else if sta ≠ (refDays days acc0).2.stack ∨ slo ≠ (refDays days acc0).2.slots ∨ cel ≠ (refDays days acc0).2.cell then (147, (refDays days acc0).2) else (0, (refDays days acc0).2)) := ⟨by rw [← HR.out]; unfold verifyR; rw [if_neg (by rw [HCR.out]; simp)]⟩
  clear hlb hok HR HCR
  go_enter Tryz.func72, Tryz.ntmps72
  go_upto_region 7 with (first | (go_at_call 75; (with_reducible refine (CC.out _ ?_).mono ?_); (next => exact FQ); rintro e W1 ⟨rfl, hF1⟩; have HB1 := AsM (hF1.blk (g := w.heap.size + 1) (blk_newN (by simp)) (by simp)); have HX1 := AsM (hF1.blk (g := w.heap.size) (blk_alloc (blk_newN rfl) _) (by simp)); have HF1 : Aside0 (Fr w W1 []) := ⟨Fr.trans (M := []) FQ hF1 (by simp)⟩; have hbl := blk_lt HB1.out; obtain ⟨v0, v1, v2⟩ := cc3 HB1.out; have z0 := blk_frozen HB1.out 0; have z1 := blk_frozen HB1.out 1; have z2 := blk_frozen HB1.out 2; clear hF1))
  refine name_ (fun V => Aside0 (Fr w V []) ∧ Aside0 (V.heap[w.heap.size]? = some (.cells #[.slice A0 names.length c0, .slice A1 curs.length c1, .slice A2 pool.length c2, .int .i64 hor, .int .i64 cel, .int .i64 slo, .int .i64 sta, .slice A7 days.length c7] 26 (0, 0))) ∧ Aside0 (V.heap[w.heap.size + 1]? = some (.cells #[.int .i64 0, .int .i64 0, .int .i64 0] 76 (0, 0))) ∧ Aside0 (V.heap[W1.heap.size]? = some (.cells #[.int .i64 0, .int .i64 0, .int .i64 0] 76 (0, 0)))) ⟨⟨FX HF1.out⟩, ⟨blk_alloc HX1.out _⟩, ⟨blk_alloc HB1.out _⟩, ⟨blk_newN rfl⟩⟩ ?_
  rintro V ⟨HVF, HVX, HVB, HVP⟩
  obtain ⟨p, hp⟩ : ∃ p, W1.heap.size = p := ⟨_, rfl⟩
  have HPL : Aside0 (w.heap.size + 1 < p) := ⟨by omega⟩
  rw [hp] at HVP ⊢
  clear v0 v1 v2 z0 z1 z2 HX1 HB1 hbl HF1 hp CC
  go_wp2
  go_loopg [8, 9, 10] days.length (fun kq s8 s9 x wr => ∃ (d : Nat) (acc : Acc), s8 = .int .i64 acc.slots ∧ s9 = .int .i64 acc.cell ∧ x = .int .i64 d ∧ d ≤ days.length ∧ Aside0 (days.length - d ≤ kq) ∧ Aside0 (Fr w wr []) ∧ Aside0 (wr.heap[w.heap.size]? = some (.cells #[.slice A0 names.length c0, .slice A1 curs.length c1, .slice A2 pool.length c2, .int .i64 hor, .int .i64 cel, .int .i64 slo, .int .i64 sta, .slice A7 days.length c7] 26 (0, 0))) ∧ Aside0 (wr.heap[w.heap.size + 1]? = some (.cells #[.int .i64 0, .int .i64 0, .int .i64 0] 76 (0, 0))) ∧ Aside0 (wr.heap[p]? = some (.cells #[.int .i64 acc.stack, .int .i64 acc.fuel, .int .i64 acc.back] 76 (0, 0))) ∧ Aside0 (refDays days acc0 = refDays (days.drop d) acc))
  case atStart => exact ⟨0, acc0, rfl, rfl, rfl, Nat.zero_le _, ⟨Nat.le_refl _⟩, HVF, HVX, HVB, HVP, ⟨rfl⟩⟩
  case round =>
   clear HVF HVX HVB HVP
   obtain ⟨d, acc, rfl, rfl, rfl, hd, HM, HF, HX, HB, HP, HSP⟩ := hrel
   by_cases hdl : d < days.length
   ·have n3 : decide (d < days.length) = true := by simpa using hdl
    obtain ⟨ad, A8, c8, rfl, h0, h1, hcap, hC1⟩ := day_at HC7.out d hdl
    obtain ⟨sg, hsg⟩ : ∃ sg, days.getD d z54 = sg := ⟨_, rfl⟩
    have hdr := day_before hdl
    rw [hsg] at hdr
    have hmem : sg ∈ days := by rw [← hsg, List.getD_eq_getElem?_getD, List.getElem?_eq_getElem hdl]; exact List.getElem_mem _
    have hdo := HOK.out _ hmem
    have heo := HEN.out _ hmem
    have HDR := AsM hdr
    rw [hsg] at h0 h1 hcap hC1
    obtain ⟨day, code⟩ := sg
    simp only at h0 h1 hcap hC1
    have g0 := fr_at h0 HF.out (by simp)
    have g1 := fr_at h1 HF.out (by simp)
    have HCC := AsM hC1
    have HD1 := AsM h1
    obtain ⟨RR, hRR⟩ : ∃ x, refSeg code day code.length 0 (initR code.length) = x := ⟨_, rfl⟩
    obtain ⟨er, lr⟩ := RR
    have HRR := AsM hRR
    have HSC : Aside0 (∀ W, Fr w W [] → Calls Tryz.prog 103 #[.agg #[.int .i64 day, .slice (some ad) 0 0]] W (fun _ _ => True) → True) := ⟨fun _ _ _ => trivial⟩
    have HST : Aside0 (∀ W, Fr w W [] → Calls Tryz.prog 103 #[.agg #[.int .i64 day, .slice A8 code.length c8]] W (StatesPost (er, lr) code.length W)) := ⟨fun W h => hRR ▸ states_calls day A8 c8 code W (Kd.C_below HCC.out h.below) hdo.1 hdo.2.1 hdo.2.2 (fun x hx => (heo _ x hx).2 (by have := hdo.1; simp only at this ⊢; omega)) (HG.out.fr0 h)⟩
    have HLN : Aside0 (0 < code.length ∧ code.length ≤ 1000000 ∧ ∀ x ∈ code, InstrOk x) := ⟨hdo⟩
    have w7 : wr.cell? ⟨w.heap.size, 7, none⟩ = some (.slice (some ad) days.length c7) := blk_cell HX.out 7
    have hxl := blk_lt HX.out
    clear h0 h1 hsg hC1 hdr hRR hdo heo hmem HSC
    by_cases he : er = 0
    case neg =>
     have he2 : (er != 0) = true := by simpa using he
     have HRE : Aside0 (R.1 = er) := ⟨by rw [HR2.out, HSP.out, HDR.out, refDays_err HRR.out he, if_pos he]⟩
     have HE := AsM he
     clear he
     go_wp2_with (first | (go_at_call 103; (with_reducible refine (HST.out _ ?_).mono ?_); (next => exact HF.out); rintro e W2 ⟨hF2, hk⟩; obtain ⟨-, kk, rfl⟩ | ⟨h9, -⟩ := hk; rotate_left; exact absurd h9 HE.out; have HB2 := AsM (hF2.blk HB.out (by simp)); have HF2 := AsM hF2; have hbl := blk_lt HB2.out; obtain ⟨v0, v1, v2⟩ := cc3 HB2.out; have z0 := blk_frozen HB2.out 0; have z1 := blk_frozen HB2.out 1; have z2 := blk_frozen HB2.out 2; clear hF2))
     refine bodyPost_ret (results_list (rs := [.cell 2 76, .tmp 3, .tmp 4, .tmp 5]) rfl (by simp) (.cell (w.heap.size + 1) 76 #[.int .i64 0, .int .i64 0, .int .i64 0] (0, 0) _ rfl ?hb huq rfl rfl (.tmp (.tmp (.tmp .nil))))) rfl ?_
     case hb => exact blk_to (blk_set (blk_set (blk_set HB2.out 0 _) 1 _) 2 _) rfl
     exact verR_err HRE.out (by (with_reducible (repeat (first | exact Fr.refl _ _ | refine Fr.drew ?_ | refine Fr.drewN ?_ _ | refine Fr.alloc ?_ _ | refine Fr.setCell ?_ _ _ ?_))) <;> first | exact HF.out.trans HF2.out (by simp) | simp) HE.out
    case pos =>
    subst he
    have HRD : Aside0 (refDays days acc0 = refDays (days.drop (d + 1)) (noteSeg code lr code.length 0 acc)) := ⟨by rw [HSP.out, HDR.out, refDays_on HRR.out]⟩
    have HLL : Aside0 (lr.length = code.length) := ⟨by have := refSeg_len code day code.length 0 (initR code.length); rw [HRR.out, initR_len] at this; exact this⟩
    go_upto_region 13 with (first | (go_at_call 103; (with_reducible refine (HST.out _ ?_).mono ?_); (next => exact HF.out); rintro e W2 ⟨hF2, hk⟩; obtain ⟨h9, -⟩ | ⟨-, sad, S, l, hsad, rfl, hArr, hl⟩ := hk; exact absurd rfl h9; have HX2 := AsM (hF2.blk HX.out (by simp)); have HB2 := AsM (hF2.blk HB.out (by simp)); have HP2 := AsM (hF2.blk HP.out (by simp)); have HF2 : Aside0 (Fr w W2 []) := ⟨HF.out.trans hF2 (by simp)⟩; have HSD := AsM hsad; have HS2 := AsM hArr.blk; have HLR := AsM hl; clear hF2 hsad hArr hl))
    have HSP2 : Aside0 (S ≠ p) := ⟨by rintro rfl; have := HP2.out.symm.trans HS2.out; simp at this⟩
    clear w7 hxl g0 g1
    go_wp2
    go_loopg [8, 9, 14] code.length (fun kq s8 s9 x wi => ∃ (k : Nat) (a : Acc), s8 = .int .i64 a.slots ∧ s9 = .int .i64 a.cell ∧ x = .int .i64 k ∧ k ≤ code.length ∧ Aside0 (code.length - k ≤ kq) ∧ Aside0 (Fr w wi []) ∧ Aside0 (wi.heap[w.heap.size]? = some (.cells #[.slice A0 names.length c0, .slice A1 curs.length c1, .slice A2 pool.length c2, .int .i64 hor, .int .i64 cel, .int .i64 slo, .int .i64 sta, .slice (some ad) days.length c7] 26 (0, 0))) ∧ Aside0 (wi.heap[w.heap.size + 1]? = some (.cells #[.int .i64 0, .int .i64 0, .int .i64 0] 76 (0, 0))) ∧ Aside0 (wi.heap[p]? = some (.cells #[.int .i64 a.stack, .int .i64 a.fuel, .int .i64 a.back] 76 (0, 0))) ∧ Aside0 (wi.heap[S]? = some (.cells (l.flatMap RV.cells).toArray 175 (0, 0))) ∧ Aside0 (noteSeg code lr code.length 0 acc = noteSeg code lr (code.length - k) k a))
    case atStart => exact ⟨0, acc, rfl, rfl, rfl, Nat.zero_le _, ⟨Nat.le_refl _⟩, HF2, HX2, HB2, HP2, HS2, ⟨rfl⟩⟩
    case round =>
     clear HF2 HX2 HB2 HP2 HS2 HF HX HB HP HSP HST
     obtain ⟨k, a, rfl, rfl, rfl, hk, HM2, HF, HX, HB, HP, HS, HSP⟩ := hrel
     by_cases hkl : k < code.length
     ·have n4 : decide (k < code.length) = true := by simpa using hkl
      obtain ⟨cad, rfl, i0, i1, i2⟩ := instr_at (Kd.C_below HCC.out HF.out.below) k hkl
      obtain ⟨x, hx⟩ : ∃ x, code.getD k z113 = x := ⟨_, rfl⟩
      have hix : InstrOk x := HLN.out.2.2 _ (by rw [← hx, List.getD_eq_getElem?_getD, List.getElem?_eq_getElem hkl]; exact List.getElem_mem _)
      rw [hx] at i0 i1 i2
      obtain ⟨v, hv⟩ : ∃ v, l[k]? = some v := ⟨_, List.getElem?_eq_getElem (by have h1 := HLR.out; have h2 := HLL.out; rw [← h1, List.length_map] at h2; omega)⟩
      have hlv : lr.getD k (false, [], []) = v.rs := by rw [← HLR.out, List.getD_eq_getElem?_getD, List.getElem?_map, hv]; rfl
      have HSQ : Aside0 (noteSeg code lr code.length 0 acc = noteSeg code lr (code.length - (k + 1)) (k + 1) (noteR a x v.xs.length)) := ⟨HSP.out.trans (noteSeg_step hkl hx hlv)⟩
      have HV := AsM hv
      have hcl63 : code.length ≤ 1000000 := HLN.out.2.1
      have HIX := AsM hix
      have w7 : wr.cell? ⟨w.heap.size, 7, none⟩ = some (.slice (some ad) days.length c7) := blk_cell HX.out 7
      have g1 := fr_at HD1.out HF.out (by simp)
      have hxl := blk_lt HX.out
      clear hx hv hlv hix HSP
      go_upto_region 17 with fail
      refine name_ (fun V => Aside0 (Fr w V []) ∧ Aside0 (V.heap[w.heap.size]? = some (.cells #[.slice A0 names.length c0, .slice A1 curs.length c1, .slice A2 pool.length c2, .int .i64 hor, .int .i64 cel, .int .i64 slo, .int .i64 sta, .slice (some ad) days.length c7] 26 (0, 0))) ∧ Aside0 (V.heap[w.heap.size + 1]? = some (.cells #[.int .i64 0, .int .i64 0, .int .i64 0] 76 (0, 0))) ∧ Aside0 (V.heap[p]? = some (.cells #[.int .i64 a.stack, .int .i64 a.fuel, .int .i64 a.back] 76 (0, 0))) ∧ Aside0 (V.heap[S]? = some (.cells (l.flatMap RV.cells).toArray 175 (0, 0))) ∧ Aside0 (V.heap[wr.heap.size]? = some (.cells #[.int .i64 x.f0, .int .i64 x.f1, .int .i64 x.f2] 113 (0, 0)))) ⟨⟨FX HF.out⟩, ⟨blk_alloc HX.out _⟩, ⟨blk_alloc HB.out _⟩, ⟨blk_alloc HP.out _⟩, ⟨blk_alloc HS.out _⟩, ⟨blk_newN rfl⟩⟩ ?_
      rintro V4 ⟨HF4, HX4, HB4, HP4, HS4, HI4⟩
      obtain ⟨I, hI⟩ : ∃ I, wr.heap.size = I := ⟨_, rfl⟩
      have HNE : Aside0 (w.heap.size ≠ p ∧ w.heap.size + 1 ≠ p) := ⟨by have := HPL.out; omega⟩
      have HIP : Aside0 (I ≠ p ∧ I ≠ S) := ⟨by have h1 := blk_lt HP.out; have h2 := blk_lt HS.out; omega⟩
      rw [hI] at HI4 ⊢
      clear w7 g1 hxl hI HF HX HB HP HS i0 i1 i2
      refine start_ (n := 11) (S := fun w' => w'.cell? ⟨p, 0, none⟩ = some (.int .i64 a.stack) ∧ w'.cell? ⟨p, 1, none⟩ = some (.int .i64 a.fuel) ∧ w'.cell? ⟨p, 2, none⟩ = some (.int .i64 a.back) ∧ w'.cell? ⟨(sad.add (k * 3)).block, (sad.add (k * 3)).off + 1, none⟩ = some (.slice v.A v.xs.length v.c)) (ds := [10]) #[false, false, false, false, false, false, false, false, false, false, false] (by kernel_rfl) rfl rfl ⟨blk_cell HP4.out 0, blk_cell HP4.out 1, blk_cell HP4.out 2, sget HS4.out HSD.out HV.out⟩ (fun hHeld => ?_)
      refine pure_ (i := 0) (N := some 60) (v := ?_) (a' := ?_) #[true, false, false, false, false, false, false, false, false, false, false] rfl rfl (by kernel_rfl) (fun _ _ _ h => h) (Or.inl ⟨by rfl, ?_⟩) ?_ ?_
      rotate_left
      ·intro w'
       go_simp
       with_reducible rfl
      rotate_left
      ·simp only [Act.put, lS, lZ, lU, i64_w, i32_w]
       rfl
      refine take_ (i := 1) (N := some 61) (v := ?_) (a' := ?_) #[true, true, false, false, false, false, false, false, false, false, false] rfl rfl (by kernel_rfl) (fun _ _ _ h => h) (Or.inl ⟨by rfl, ?_⟩) hHeld ?_ ?_
      rotate_left
      ·rintro w' ⟨s0, s1, s2, s3⟩
       go_simp
       with_reducible rfl
      rotate_left
      ·simp only [Act.put, lS, lZ, lU, i64_w, i32_w]
       rfl
      refine pure_ (i := 2) (N := some 62) (v := ?_) (a' := ?_) #[true, true, true, false, false, false, false, false, false, false, false] rfl rfl (by kernel_rfl) (fun _ _ _ h => h) (Or.inl ⟨by rfl, ?_⟩) ?_ ?_
      rotate_left
      ·intro w'
       go_simp
       with_reducible rfl
      rotate_left
      ·simp only [Act.put, lS, lZ, lU, i64_w, i32_w]
       rfl
      refine pure_ (i := 3) (N := some 63) (v := ?_) (a' := ?_) #[true, true, true, true, false, false, false, false, false, false, false] rfl rfl (by kernel_rfl) (fun _ _ _ h => h) (Or.inl ⟨by rfl, ?_⟩) ?_ ?_
      rotate_left
      ·intro w'
       go_simp
       with_reducible rfl
      rotate_left
      ·simp only [Act.put, lS, lZ, lU, i64_w, i32_w]
       rfl
      refine pure_ (i := 4) (N := some 64) (v := ?_) (a' := ?_) #[true, true, true, true, true, false, false, false, false, false, false] rfl rfl (by kernel_rfl) (fun _ _ _ h => h) (Or.inl ⟨by rfl, ?_⟩) ?_ ?_
      rotate_left
      ·intro w'
       go_simp
       with_reducible rfl
      rotate_left
      ·simp only [Act.put, lS, lZ, lU, i64_w, i32_w]
       rfl
      refine pure_ (i := 5) (N := some 65) (v := ?_) (a' := ?_) #[true, true, true, true, true, true, false, false, false, false, false] rfl rfl (by kernel_rfl) (fun _ _ _ h => h) (Or.inl ⟨by rfl, ?_⟩) ?_ ?_
      rotate_left
      ·intro w'
       go_simp
       with_reducible rfl
      rotate_left
      ·simp only [Act.put, lS, lZ, lU, i64_w, i32_w]
       rfl
      refine take_ (i := 6) (N := some 66) (v := ?_) (a' := ?_) #[true, true, true, true, true, true, true, false, false, false, false] rfl rfl (by kernel_rfl) (fun _ _ _ h => h) (Or.inl ⟨by rfl, ?_⟩) hHeld ?_ ?_
      rotate_left
      ·rintro w' ⟨s0, s1, s2, s3⟩
       go_simp
       with_reducible rfl
      rotate_left
      ·simp only [Act.put, lS, lZ, lU, i64_w, i32_w]
       rfl
      refine pure_ (i := 7) (N := some 67) (v := ?_) (a' := ?_) #[true, true, true, true, true, true, true, true, false, false, false] rfl rfl (by kernel_rfl) (fun _ _ _ h => h) (Or.inl ⟨by rfl, ?_⟩) ?_ ?_
      rotate_left
      ·intro w'
       go_simp
       with_reducible rfl
      rotate_left
      ·simp only [Act.put, lS, lZ, lU, i64_w, i32_w]
       rfl
      refine one_ (i := 8) (N := some 68) #[true, true, true, true, true, true, true, true, true, false, false] rfl rfl (by kernel_rfl) (by decide) (fun K hK => ?_)
      refine goes_ (f := 104) Tryz.func104 (by rfl) (by rfl) #[.int .i64 a.stack, .int .i64 v.xs.length] (by rfl) rfl rfl (by first | (go_simp; done) | (go_simp; rfl) | rfl) ?_
      refine (most_calls a.stack v.xs.length _).mono ?_
      rintro e V5 ⟨rfl, ⟨n5, rfl⟩⟩
      have v0 : V4.cell? ⟨p, 0, none⟩ = some (.int .i64 a.stack) := blk_cell HP4.out 0
      have z0 : V4.frozen? ⟨p, 0, none⟩ = false := blk_frozen HP4.out 0
      have hpl := blk_lt HP4.out
      refine ⟨_, rfl, hK.out _ _ ⟨blk_cell HP4.out 0, blk_cell HP4.out 1, blk_cell HP4.out 2, sget (blk_drewN (blk_drew HS4.out) n5) HSD.out HV.out⟩ (fun hHeld => ?_)⟩
      clear hK K
      refine norm_ (a' := ?_) ?_ ?_
      rotate_left
      ·show Act.put _ (some 68) _ = _
       simp only [Act.put, lS, lZ, lU, i64_w, i32_w]
       rfl
      refine pure_ (i := 9) (N := some 69) (v := ?_) (a' := ?_) #[true, true, true, true, true, true, true, true, true, true, false] rfl rfl (by kernel_rfl) (fun _ _ _ h => h) (Or.inl ⟨by rfl, ?_⟩) ?_ ?_
      rotate_left
      ·intro w'
       go_simp
       with_reducible rfl
      rotate_left
      ·simp only [Act.put, lS, lZ, lU, i64_w, i32_w]
       rfl
      refine last_ (i := 10) (N := none) #[true, true, true, true, true, true, true, true, true, true, true] rfl rfl (by kernel_rfl) (by decide) (fun K hK => ?_)
      refine skip_ (w1 := ?_) (by rfl) rfl ?_ ?_
      rotate_left
      ·go_simp
       rfl
      refine hK.out _ _ ?_
      clear hK K
      refine done_ (by kernel_rfl) ?_
      go_upto_region 18 with fail
      refine name_ (fun V => Aside0 (Fr w V []) ∧ Aside0 (V.heap[w.heap.size]? = some (.cells #[.slice A0 names.length c0, .slice A1 curs.length c1, .slice A2 pool.length c2, .int .i64 hor, .int .i64 cel, .int .i64 slo, .int .i64 sta, .slice (some ad) days.length c7] 26 (0, 0))) ∧ Aside0 (V.heap[w.heap.size + 1]? = some (.cells #[.int .i64 0, .int .i64 0, .int .i64 0] 76 (0, 0))) ∧ Aside0 (V.heap[p]? = some (.cells #[.int .i64 (mostR a.stack v.xs.length), .int .i64 (a.fuel), .int .i64 (a.back)] 76 (0, 0))) ∧ Aside0 (V.heap[S]? = some (.cells (l.flatMap RV.cells).toArray 175 (0, 0))) ∧ Aside0 (V.heap[I]? = some (.cells #[.int .i64 x.f0, .int .i64 x.f1, .int .i64 x.f2] 113 (0, 0)))) ⟨⟨by (with_reducible (repeat (first | exact Fr.refl _ _ | refine Fr.drew ?_ | refine Fr.drewN ?_ _ | refine Fr.alloc ?_ _ | refine Fr.setCell ?_ _ _ ?_))) <;> first | exact HF4.out | exact .inr (by have := HPL.out; show w.heap.size ≤ p; omega)⟩, ⟨by first | exact at_far (blk_drewN HX4.out _) HNE.out.1 _ | exact at_far HX4.out HNE.out.1 _⟩, ⟨by first | exact at_far (blk_drewN HB4.out _) HNE.out.2 _ | exact at_far HB4.out HNE.out.2 _⟩, ⟨by first | exact blk_to (blk_set (blk_drewN HP4.out _) 0 _) rfl | exact blk_to (blk_set HP4.out 0 _) rfl⟩, ⟨by first | exact at_far (blk_drewN HS4.out _) (HSP2.out) _ | exact at_far HS4.out (HSP2.out) _⟩, ⟨by first | exact at_far (blk_drewN HI4.out _) (HIP.out.1) _ | exact at_far HI4.out (HIP.out.1) _⟩⟩ ?_
      rintro V5 ⟨HF5, HX5, HB5, HP5, HS5, HI5⟩
      clear v0 z0 hpl HF4 HX4 HB4 HP4 HS4 HI4 hHeld
      have hpl := blk_lt HP5.out
      obtain ⟨v0, v1, v2⟩ := cc3 HP5.out
      have z1 := blk_frozen HP5.out 1
      have z2 := blk_frozen HP5.out 2
      go_upto_region 19 with fail
      refine name_ (fun V => Aside0 (Fr w V []) ∧ Aside0 (V.heap[w.heap.size]? = some (.cells #[.slice A0 names.length c0, .slice A1 curs.length c1, .slice A2 pool.length c2, .int .i64 hor, .int .i64 cel, .int .i64 slo, .int .i64 sta, .slice (some ad) days.length c7] 26 (0, 0))) ∧ Aside0 (V.heap[w.heap.size + 1]? = some (.cells #[.int .i64 0, .int .i64 0, .int .i64 0] 76 (0, 0))) ∧ Aside0 (V.heap[p]? = some (.cells #[.int .i64 (mostR a.stack v.xs.length), .int .i64 (wrap64 (a.fuel + 1)), .int .i64 (a.back)] 76 (0, 0))) ∧ Aside0 (V.heap[S]? = some (.cells (l.flatMap RV.cells).toArray 175 (0, 0))) ∧ Aside0 (V.heap[I]? = some (.cells #[.int .i64 x.f0, .int .i64 x.f1, .int .i64 x.f2] 113 (0, 0)))) ⟨⟨by (with_reducible (repeat (first | exact Fr.refl _ _ | refine Fr.drew ?_ | refine Fr.drewN ?_ _ | refine Fr.alloc ?_ _ | refine Fr.setCell ?_ _ _ ?_))) <;> first | exact HF5.out | exact .inr (by have := HPL.out; show w.heap.size ≤ p; omega)⟩, ⟨by first | exact at_far (blk_drewN HX5.out _) HNE.out.1 _ | exact at_far HX5.out HNE.out.1 _⟩, ⟨by first | exact at_far (blk_drewN HB5.out _) HNE.out.2 _ | exact at_far HB5.out HNE.out.2 _⟩, ⟨by first | exact blk_to (blk_set (blk_drewN HP5.out _) 1 _) rfl | exact blk_to (blk_set HP5.out 1 _) rfl⟩, ⟨by first | exact at_far (blk_drewN HS5.out _) (HSP2.out) _ | exact at_far HS5.out (HSP2.out) _⟩, ⟨by first | exact at_far (blk_drewN HI5.out _) (HIP.out.1) _ | exact at_far HI5.out (HIP.out.1) _⟩⟩ ?_
      rintro V6 ⟨HF6, HX6, HB6, HP6, HS6, HI6⟩
      clear v0 v1 v2 z1 z2 hpl HF5 HX5 HB5 HP5 HS5 HI5
      have hpl := blk_lt HP6.out
      obtain ⟨v0, v1, v2⟩ := cc3 HP6.out
      have z1 := blk_frozen HP6.out 1
      have z2 := blk_frozen HP6.out 2
      obtain ⟨i0, i1, i2⟩ := cc3 HI6.out
      have hil := blk_lt HI6.out
      have hw1 : wrap64 (x.f1 + 1) = x.f1 + 1 := by have := HIX.out.2.2; unfold wrap64; omega
      have hcs : x.f0 = 3 ∨ x.f0 = 6 ∨ x.f0 = 7 ∨ x.f0 = 4 ∨ x.f0 = 5 ∨ (x.f0 ≠ 3 ∧ x.f0 ≠ 6 ∧ x.f0 ≠ 7 ∧ x.f0 ≠ 4 ∧ x.f0 ≠ 5) := by omega
      rcases hcs with h9 | h9 | h9 | h9 | h9 | ⟨h3, h6, h7, h4, h5⟩
      ·-- 3
       have e3 : (x.f0 == 3) = true := by simp; omega
       have hn : noteR a x v.xs.length = ⟨mostR a.stack v.xs.length, wrap64 (a.fuel + 1), mostR a.back x.f2, a.slots, a.cell⟩ := by unfold noteR; simp [h9]
       have HSN := HSQ
       rw [hn] at HSN
       clear hn HSQ
       go_wp2_with (first | (go_at_call 104; (with_reducible refine (most_calls a.back x.f2 _).mono ?_); rintro e W7 ⟨rfl, ⟨n7, rfl⟩⟩))
       go_roundg (code.length - (k + 1))
       case measure => have := HM2.out; omega
       case rel => exact ⟨k + 1, ⟨mostR a.stack v.xs.length, wrap64 (a.fuel + 1), mostR a.back x.f2, a.slots, a.cell⟩, rfl, rfl, by go_num, by omega, ⟨Nat.le_refl _⟩, ⟨by (with_reducible (repeat (first | exact Fr.refl _ _ | refine Fr.drew ?_ | refine Fr.drewN ?_ _ | refine Fr.alloc ?_ _ | refine Fr.setCell ?_ _ _ ?_))) <;> first | exact HF6.out | exact .inr (by have := HPL.out; show w.heap.size ≤ p; omega)⟩, ⟨by first | exact at_far (blk_drewN HX6.out _) HNE.out.1 _ | exact at_far HX6.out HNE.out.1 _⟩, ⟨by first | exact at_far (blk_drewN HB6.out _) HNE.out.2 _ | exact at_far HB6.out HNE.out.2 _⟩, ⟨by first | exact blk_to (blk_set (blk_drewN HP6.out _) 2 _) rfl | exact blk_to (blk_set HP6.out 2 _) rfl⟩, ⟨by first | exact at_far (blk_drewN HS6.out _) HSP2.out _ | exact at_far HS6.out HSP2.out _⟩, HSN⟩
      ·-- 6
       have e3 : (x.f0 == 3) = false := by simp; omega
       have e6 : (x.f0 == 6) = true := by simp; omega
       have hn : noteR a x v.xs.length = ⟨mostR a.stack v.xs.length, wrap64 (a.fuel + 1), a.back, mostR a.slots (x.f1 + 1), a.cell⟩ := by unfold noteR; simp [h9]
       have HSN := HSQ
       rw [hn] at HSN
       clear hn HSQ
       go_wp2_with (first | (go_at_call 104; (with_reducible refine (most_calls a.slots (x.f1 + 1) _).mono ?_); rintro e W7 ⟨rfl, ⟨n7, rfl⟩⟩))
       go_roundg (code.length - (k + 1))
       case measure => have := HM2.out; omega
       case rel => exact ⟨k + 1, ⟨mostR a.stack v.xs.length, wrap64 (a.fuel + 1), a.back, mostR a.slots (x.f1 + 1), a.cell⟩, rfl, rfl, by go_num, by omega, ⟨Nat.le_refl _⟩, ⟨by (with_reducible (repeat (first | exact Fr.refl _ _ | refine Fr.drew ?_ | refine Fr.drewN ?_ _ | refine Fr.alloc ?_ _ | refine Fr.setCell ?_ _ _ ?_))) <;> first | exact HF6.out | exact .inr (by have := HPL.out; show w.heap.size ≤ p; omega)⟩, ⟨by first | exact HX6.out | exact blk_drewN HX6.out _⟩, ⟨by first | exact HB6.out | exact blk_drewN HB6.out _⟩, ⟨by first | exact HP6.out | exact blk_drewN HP6.out _⟩, ⟨by first | exact HS6.out | exact blk_drewN HS6.out _⟩, HSN⟩
      ·-- 7
       have e3 : (x.f0 == 3) = false := by simp; omega
       have e6 : (x.f0 == 6) = false := by simp; omega
       have e7 : (x.f0 == 7) = true := by simp; omega
       have hn : noteR a x v.xs.length = ⟨mostR a.stack v.xs.length, wrap64 (a.fuel + 1), a.back, mostR a.slots (x.f1 + 1), a.cell⟩ := by unfold noteR; simp [h9]
       have HSN := HSQ
       rw [hn] at HSN
       clear hn HSQ
       go_wp2_with (first | (go_at_call 104; (with_reducible refine (most_calls a.slots (x.f1 + 1) _).mono ?_); rintro e W7 ⟨rfl, ⟨n7, rfl⟩⟩))
       go_roundg (code.length - (k + 1))
       case measure => have := HM2.out; omega
       case rel => exact ⟨k + 1, ⟨mostR a.stack v.xs.length, wrap64 (a.fuel + 1), a.back, mostR a.slots (x.f1 + 1), a.cell⟩, rfl, rfl, by go_num, by omega, ⟨Nat.le_refl _⟩, ⟨by (with_reducible (repeat (first | exact Fr.refl _ _ | refine Fr.drew ?_ | refine Fr.drewN ?_ _ | refine Fr.alloc ?_ _ | refine Fr.setCell ?_ _ _ ?_))) <;> first | exact HF6.out | exact .inr (by have := HPL.out; show w.heap.size ≤ p; omega)⟩, ⟨by first | exact HX6.out | exact blk_drewN HX6.out _⟩, ⟨by first | exact HB6.out | exact blk_drewN HB6.out _⟩, ⟨by first | exact HP6.out | exact blk_drewN HP6.out _⟩, ⟨by first | exact HS6.out | exact blk_drewN HS6.out _⟩, HSN⟩
      ·-- 4
       have e3 : (x.f0 == 3) = false := by simp; omega
       have e6 : (x.f0 == 6) = false := by simp; omega
       have e7 : (x.f0 == 7) = false := by simp; omega
       have e4 : (x.f0 == 4) = true := by simp; omega
       have hn : noteR a x v.xs.length = ⟨mostR a.stack v.xs.length, wrap64 (a.fuel + 1), a.back, a.slots, mostR a.cell (x.f1 + 1)⟩ := by unfold noteR; simp [h9]
       have HSN := HSQ
       rw [hn] at HSN
       clear hn HSQ
       go_wp2_with (first | (go_at_call 104; (with_reducible refine (most_calls a.cell (x.f1 + 1) _).mono ?_); rintro e W7 ⟨rfl, ⟨n7, rfl⟩⟩))
       go_roundg (code.length - (k + 1))
       case measure => have := HM2.out; omega
       case rel => exact ⟨k + 1, ⟨mostR a.stack v.xs.length, wrap64 (a.fuel + 1), a.back, a.slots, mostR a.cell (x.f1 + 1)⟩, rfl, rfl, by go_num, by omega, ⟨Nat.le_refl _⟩, ⟨by (with_reducible (repeat (first | exact Fr.refl _ _ | refine Fr.drew ?_ | refine Fr.drewN ?_ _ | refine Fr.alloc ?_ _ | refine Fr.setCell ?_ _ _ ?_))) <;> first | exact HF6.out | exact .inr (by have := HPL.out; show w.heap.size ≤ p; omega)⟩, ⟨by first | exact HX6.out | exact blk_drewN HX6.out _⟩, ⟨by first | exact HB6.out | exact blk_drewN HB6.out _⟩, ⟨by first | exact HP6.out | exact blk_drewN HP6.out _⟩, ⟨by first | exact HS6.out | exact blk_drewN HS6.out _⟩, HSN⟩
      ·-- 5
       have e3 : (x.f0 == 3) = false := by simp; omega
       have e6 : (x.f0 == 6) = false := by simp; omega
       have e7 : (x.f0 == 7) = false := by simp; omega
       have e4 : (x.f0 == 4) = false := by simp; omega
       have e5 : (x.f0 == 5) = true := by simp; omega
       have hn : noteR a x v.xs.length = ⟨mostR a.stack v.xs.length, wrap64 (a.fuel + 1), a.back, a.slots, mostR a.cell (x.f1 + 1)⟩ := by unfold noteR; simp [h9]
       have HSN := HSQ
       rw [hn] at HSN
       clear hn HSQ
       go_wp2_with (first | (go_at_call 104; (with_reducible refine (most_calls a.cell (x.f1 + 1) _).mono ?_); rintro e W7 ⟨rfl, ⟨n7, rfl⟩⟩))
       go_roundg (code.length - (k + 1))
       case measure => have := HM2.out; omega
       case rel => exact ⟨k + 1, ⟨mostR a.stack v.xs.length, wrap64 (a.fuel + 1), a.back, a.slots, mostR a.cell (x.f1 + 1)⟩, rfl, rfl, by go_num, by omega, ⟨Nat.le_refl _⟩, ⟨by (with_reducible (repeat (first | exact Fr.refl _ _ | refine Fr.drew ?_ | refine Fr.drewN ?_ _ | refine Fr.alloc ?_ _ | refine Fr.setCell ?_ _ _ ?_))) <;> first | exact HF6.out | exact .inr (by have := HPL.out; show w.heap.size ≤ p; omega)⟩, ⟨by first | exact HX6.out | exact blk_drewN HX6.out _⟩, ⟨by first | exact HB6.out | exact blk_drewN HB6.out _⟩, ⟨by first | exact HP6.out | exact blk_drewN HP6.out _⟩, ⟨by first | exact HS6.out | exact blk_drewN HS6.out _⟩, HSN⟩
      ·-- others
       have e3 : (x.f0 == 3) = false := by simp; omega
       have e6 : (x.f0 == 6) = false := by simp; omega
       have e7 : (x.f0 == 7) = false := by simp; omega
       have e4 : (x.f0 == 4) = false := by simp; omega
       have e5 : (x.f0 == 5) = false := by simp; omega
       have hn : noteR a x v.xs.length = ⟨mostR a.stack v.xs.length, wrap64 (a.fuel + 1), a.back, a.slots, a.cell⟩ := by unfold noteR; simp [h3, h6, h7, h4, h5]
       have HSN := HSQ
       rw [hn] at HSN
       clear hn HSQ
       go_wp2
       go_roundg (code.length - (k + 1))
       case measure => have := HM2.out; omega
       case rel => exact ⟨k + 1, ⟨mostR a.stack v.xs.length, wrap64 (a.fuel + 1), a.back, a.slots, a.cell⟩, rfl, rfl, by go_num, by omega, ⟨Nat.le_refl _⟩, ⟨by (with_reducible (repeat (first | exact Fr.refl _ _ | refine Fr.drew ?_ | refine Fr.drewN ?_ _ | refine Fr.alloc ?_ _ | refine Fr.setCell ?_ _ _ ?_))) <;> first | exact HF6.out | exact .inr (by have := HPL.out; show w.heap.size ≤ p; omega)⟩, ⟨by first | exact HX6.out | exact blk_drewN HX6.out _⟩, ⟨by first | exact HB6.out | exact blk_drewN HB6.out _⟩, ⟨by first | exact HP6.out | exact blk_drewN HP6.out _⟩, ⟨by first | exact HS6.out | exact blk_drewN HS6.out _⟩, HSN⟩
     ·obtain rfl : k = code.length := by omega
      have n4 : decide (code.length < code.length) = false := by simp
      have hsp := HSP.out
      rw [Nat.sub_self] at hsp
      have HSQ : Aside0 (refDays days acc0 = refDays (days.drop (d + 1)) a) := ⟨by rw [HRD.out, hsp]; rfl⟩
      clear hsp
      go_wp2
      go_roundg (days.length - (d + 1))
      case measure => have := HM.out; omega
      case rel => exact ⟨d + 1, a, rfl, rfl, by go_num, by omega, ⟨Nat.le_refl _⟩, HF, HX, HB, HP, HSQ⟩
   ·obtain rfl : d = days.length := by omega
    have n3 : decide (days.length < days.length) = false := by simp
    have hsp : refDays days acc0 = (0, acc) := by rw [HSP.out, List.drop_length]; rfl
    have HR3 : Aside0 (R = if sta ≠ acc.stack ∨ slo ≠ acc.slots ∨ cel ≠ acc.cell then (147, acc) else (0, acc)) := ⟨by rw [HR2.out, hsp]; simp⟩
    clear hsp HSP HR2 HM HOK HEN HC7 HG
    have x4 : wr.cell? ⟨w.heap.size, 4, none⟩ = some (.int .i64 cel) := blk_cell HX.out 4
    have x5 : wr.cell? ⟨w.heap.size, 5, none⟩ = some (.int .i64 slo) := blk_cell HX.out 5
    have x6 : wr.cell? ⟨w.heap.size, 6, none⟩ = some (.int .i64 sta) := blk_cell HX.out 6
    have x7 : wr.cell? ⟨w.heap.size, 7, none⟩ = some (.slice A7 days.length c7) := blk_cell HX.out 7
    have p0 : wr.cell? ⟨p, 0, none⟩ = some (.int .i64 acc.stack) := blk_cell HP.out 0
    have p1 : wr.cell? ⟨p, 1, none⟩ = some (.int .i64 acc.fuel) := blk_cell HP.out 1
    have p2 : wr.cell? ⟨p, 2, none⟩ = some (.int .i64 acc.back) := blk_cell HP.out 2
    have hbl := blk_lt HB.out
    obtain ⟨v0, v1, v2⟩ := cc3 HB.out
    have z0 := blk_frozen HB.out 0
    have z1 := blk_frozen HB.out 1
    have z2 := blk_frozen HB.out 2
    have hcs : (sta ≠ acc.stack) ∨ (sta = acc.stack ∧ slo ≠ acc.slots) ∨ (sta = acc.stack ∧ slo = acc.slots ∧ cel ≠ acc.cell) ∨ (sta = acc.stack ∧ slo = acc.slots ∧ cel = acc.cell) := by omega
    rcases hcs with ha | ⟨ha, hb⟩ | ⟨ha, hb, hc⟩ | ⟨ha, hb, hc⟩
    ·have ta : (sta != acc.stack) = true := by simpa using ha
     have HRE : Aside0 (R.1 = 147) := ⟨by rw [HR3.out, if_pos (Or.inl ha)]⟩
     clear ha
     go_wp2
     go_region_held3 (fun w' => w'.cell? ⟨w.heap.size, 7, none⟩ = some (.slice A7 days.length c7)) (first | exact x7 | go_keep) (fail)
     go_wp2
     refine bodyPost_ret (results_list (rs := [.cell 2 76, .tmp 3, .tmp 4, .tmp 5]) rfl (by simp) (.cell (w.heap.size + 1) 76 #[.int .i64 0, .int .i64 0, .int .i64 0] (0, 0) _ rfl ?hb huq rfl rfl (.tmp (.tmp (.tmp .nil))))) rfl ?_
     case hb => exact blk_to (blk_set (blk_set (blk_set HB.out 0 _) 1 _) 2 _) rfl
     exact verR_err HRE.out (by (with_reducible (repeat (first | exact Fr.refl _ _ | refine Fr.drew ?_ | refine Fr.drewN ?_ _ | refine Fr.alloc ?_ _ | refine Fr.setCell ?_ _ _ ?_))) <;> first | exact HF.out | simp) (by decide)
    ·have ta : (sta != acc.stack) = false := by simpa using ha
     have tb : (slo != acc.slots) = true := by simpa using hb
     have HRE : Aside0 (R.1 = 147) := ⟨by rw [HR3.out, if_pos (Or.inr (Or.inl hb))]⟩
     clear ha hb
     go_wp2
     go_region_held3 (fun w' => w'.cell? ⟨w.heap.size, 7, none⟩ = some (.slice A7 days.length c7)) (first | exact x7 | go_keep) (fail)
     go_wp2
     refine bodyPost_ret (results_list (rs := [.cell 2 76, .tmp 3, .tmp 4, .tmp 5]) rfl (by simp) (.cell (w.heap.size + 1) 76 #[.int .i64 0, .int .i64 0, .int .i64 0] (0, 0) _ rfl ?hb huq rfl rfl (.tmp (.tmp (.tmp .nil))))) rfl ?_
     case hb => exact blk_to (blk_set (blk_set (blk_set HB.out 0 _) 1 _) 2 _) rfl
     exact verR_err HRE.out (by (with_reducible (repeat (first | exact Fr.refl _ _ | refine Fr.drew ?_ | refine Fr.drewN ?_ _ | refine Fr.alloc ?_ _ | refine Fr.setCell ?_ _ _ ?_))) <;> first | exact HF.out | simp) (by decide)
    ·have ta : (sta != acc.stack) = false := by simpa using ha
     have tb : (slo != acc.slots) = false := by simpa using hb
     have tc : (cel != acc.cell) = true := by simpa using hc
     have HRE : Aside0 (R.1 = 147) := ⟨by rw [HR3.out, if_pos (Or.inr (Or.inr hc))]⟩
     clear ha hb hc
     go_wp2
     go_region_held3 (fun w' => w'.cell? ⟨w.heap.size, 7, none⟩ = some (.slice A7 days.length c7)) (first | exact x7 | go_keep) (fail)
     go_wp2
     refine bodyPost_ret (results_list (rs := [.cell 2 76, .tmp 3, .tmp 4, .tmp 5]) rfl (by simp) (.cell (w.heap.size + 1) 76 #[.int .i64 0, .int .i64 0, .int .i64 0] (0, 0) _ rfl ?hb huq rfl rfl (.tmp (.tmp (.tmp .nil))))) rfl ?_
     case hb => exact blk_to (blk_set (blk_set (blk_set HB.out 0 _) 1 _) 2 _) rfl
     exact verR_err HRE.out (by (with_reducible (repeat (first | exact Fr.refl _ _ | refine Fr.drew ?_ | refine Fr.drewN ?_ _ | refine Fr.alloc ?_ _ | refine Fr.setCell ?_ _ _ ?_))) <;> first | exact HF.out | simp) (by decide)
    ·have ta : (sta != acc.stack) = false := by simpa using ha
     have tb : (slo != acc.slots) = false := by simpa using hb
     have tc : (cel != acc.cell) = false := by simpa using hc
     have HRE : Aside0 (R = (0, acc)) := ⟨by rw [HR3.out, if_neg (fun h => h.elim (fun h => h ha) (fun h => h.elim (fun h => h hb) (fun h => h hc)))]⟩
     clear ha hb hc
     go_wp2
     refine bodyPost_ret (results_list (rs := [.cell 2 76, .tmp 3, .tmp 4, .tmp 5]) rfl (by simp) (.cell (w.heap.size + 1) 76 #[.int .i64 acc.stack, .int .i64 acc.fuel, .int .i64 acc.back] (0, 0) _ rfl ?hb huq rfl rfl (.tmp (.tmp (.tmp .nil))))) rfl ?_
     case hb => exact blk_to (blk_set (blk_set (blk_set HB.out 0 _) 1 _) 2 _) rfl
     exact verR_ok HRE.out (by (with_reducible (repeat (first | exact Fr.refl _ _ | refine Fr.drew ?_ | refine Fr.drewN ?_ _ | refine Fr.alloc ?_ _ | refine Fr.setCell ?_ _ _ ?_))) <;> first | exact HF.out | simp)
end Go.Proofs.YtpoehkacfmljcaaGreatDoor.H
