/- payoffref12.Bodies. Printed by mkWL.py. -/
import Derived.Test.YtpoehkacfmljcaaGreatDoorZV
import Derived.Test.YtpoehkacfmljcaaGreatDoorZKB
set_option maxHeartbeats 4000000
set_option maxRecDepth 100000
namespace Go.Proofs.YtpoehkacfmljcaaGreatDoor.H
open Go.RowKit Go.Proofs.YtpoehkacfmljcaaGreatDoorW.PrintWords Go.Proofs.YtpoehkacfmljcaaGreatDoorW.PrintLast Go.Proofs.YtpoehkacfmljcaaGreatDoorW.PrintMore
open Go.ChangeMaps (setBlock)
attribute [local go_sem] max2_int min2_int max_two min_two max_three min_three max_four min_four
set_option linter.unusedVariables false
set_option linter.unusedSimpArgs false
open Go.Proofs.YtpoehkacfmljcaaGreatDoor.M
def RowP (x : List Int) (w : World) (e : Ending) (w' : World) : Prop := ∃ A c q, q = x ∧ e = .returned (.slice A q.length c) ∧ Sl w' A c q ∧ Fr w w' []
theorem rUint_C {W : World} {A : Option Addr} {c : Nat} {l : List Int} (x : Int) (h : Sl W A c l) (h0 : 0 ≤ x) (h1 : x < 18446744073709551616) (hl : l.length ≤ 130000000000000) : Calls Tryz.prog 29 #[.slice A l.length c, .int .u64 x] W (RowP (l ++ uvar x.toNat) W) := by
 obtain ⟨n, rfl⟩ : ∃ n : Nat, x = n := ⟨x.toNat, by omega⟩
 rw [Int.toNat_natCast]
 exact (rAppendUint_calls A c l (by omega) W h.2 h.1 hl).mono fun e w' h => h.sl
theorem rUint_0 (W : World) (x : Int) (h0 : 0 ≤ x) (h1 : x < 18446744073709551616) : Calls Tryz.prog 29 #[.slice none 0 0, .int .u64 x] W (RowP (uvar x.toNat) W) :=
 rUint_C (l := []) (c := 0) (A := none) x ⟨Nat.le_refl _, (Buf.nil False W 0).reads.elim fun A h => by obtain ⟨c, e, _, h⟩ := h; injection e with e1 _ _; subst e1; exact h⟩ h0 h1 (by simp)
theorem bodies_calls (p : Prg) (hp : p.Ok) (A0 : Option Addr) (c0 : Nat) (A1 : Option Addr) (c1 : Nat) (A2 : Option Addr) (c2 : Nat) (A7 : Option Addr) (c7 : Nat) (w : World) (G : TabW w) (hl : p.Lies w A0 A1 A2 A7) :
  Calls Tryz.prog 76 #[.agg #[.slice A0 p.names.length c0, .slice A1 p.curs.length c1, .slice A2 p.pool.length c2, .int .i64 p.hor, .int .i64 p.cel, .int .i64 p.slo, .int .i64 p.sta, .slice A7 p.days.length c7]] w fun e w' => ∃ g, e = .returned (.slice (some ⟨g, 0, none⟩) 5 5) ∧ Kd.C k50 w' (some ⟨g, 0, none⟩) 5 p.secs ∧ Fr w w' [] := by
 have HG := AsM G
 have HL := AsM hl
 have HP := AsM hp
 have b0 := hp.names.most
 have b1 := hp.curs.most
 have b2 := hp.pool
 have b7 := hp.dmost
 have h3 := hp.hor
 have h4 := hp.cel
 have h5 := hp.slo
 have h6 := hp.sta
 have hup := Tryz.underlying26
 have CT : Aside0 (∀ W A c l s, Sl W A c l → s.size ≤ 10000000000000 → l.length ≤ 120000000000000 → Calls Tryz.prog 109 #[.slice A l.length c, .string s] W (RowP (l ++ txtL s) W)) := ⟨fun W A c l s h1 h2 h3 => (rAppendText_calls A c l s h2 W h1 h3).mono fun e w' h => h.sl⟩
 have CU : Aside0 (∀ W A c l (x : Int), Sl W A c l → 0 ≤ x → x < 18446744073709551616 → l.length ≤ 130000000000000 → Calls Tryz.prog 29 #[.slice A l.length c, .int .u64 x] W (RowP (l ++ uvar x.toNat) W)) := ⟨fun W A c l x h1 h2 h3 h4 => rUint_C x h1 h2 h3 h4⟩
 have CI : Aside0 (∀ W A c l (x : Int), Sl W A c l → (-9223372036854775808 ≤ x ∧ x < 9223372036854775808) → l.length ≤ 130000000000000 → Calls Tryz.prog 30 #[.slice A l.length c, .int .i64 x] W (RowP (l ++ uvar (zig x)) W)) := ⟨fun W A c l x h1 h2 h3 => (rAppendInt_calls A c l h2 W h1.2 h1.1 h3).mono fun e w' h => h.sl⟩
 clear G hl hp
 go_enter Tryz.func76, Tryz.ntmps76
 go_wp2_with (first | (go_at_call 29; ((with_reducible refine (rUint_0 _ (p.names.length : Int) (by omega) (by omega)).mono ?_); rintro e W1 ⟨Aa, da, qa, hq, rfl, hs, hF⟩; have HQa := AsM hq; have HSa := AsM hs; have HK := AsM (hF.blk (g := w.heap.size) (o := .cells #[.slice A0 p.names.length c0, .slice A1 p.curs.length c1, .slice A2 p.pool.length c2, .int .i64 p.hor, .int .i64 p.cel, .int .i64 p.slo, .int .i64 p.sta, .slice A7 p.days.length c7] 26 (0, 0)) (blk_newN rfl) (by simp)); have HF : Aside0 (Fr w W1 []) := ⟨Fr.trans (L := []) (M := []) FQ hF (by simp)⟩; clear hq hs hF)))
 obtain ⟨pb, hpb⟩ : ∃ pb, w.heap.size = pb := ⟨_, rfl⟩
 rw [hpb] at HK ⊢
 go_loopg [3, 4] p.names.length (fun kq s3 s4 wr => ∃ (i : Nat) (A : Option Addr) (c : Nat) (q : List Int), s3 = .slice A q.length c ∧ s4 = .int .i64 i ∧ i ≤ p.names.length ∧ Aside0 (p.names.length - i ≤ kq) ∧ Aside0 (q = uvar p.names.length ++ (p.names.take i).flatMap txtL) ∧ Aside0 (Sl wr A c q) ∧ Aside0 (Fr w wr []) ∧ Aside0 (wr.heap[pb]? = some (.cells #[.slice A0 p.names.length c0, .slice A1 p.curs.length c1, .slice A2 p.pool.length c2, .int .i64 p.hor, .int .i64 p.cel, .int .i64 p.slo, .int .i64 p.sta, .slice A7 p.days.length c7] 26 (0, 0))))
 case atStart => exact ⟨0, Aa, da, qa, rfl, rfl, Nat.zero_le _, ⟨Nat.le_refl _⟩, ⟨by rw [HQa.out, Int.toNat_natCast]; simp [poolL, daysL]⟩, HSa, HF, HK⟩
 case round =>
  clear HF HK HSa HQa 
  obtain ⟨i, Aa, da, qa, rfl, rfl, hi, HM, HQa, HSa, HF, HK⟩ := hrel
  by_cases hil : i < p.names.length
  ·have n3 : decide (i < p.names.length) = true := by simpa using hil
   have p0 : (0 : Int) ≤ (i : Int) := by omega
   have p1 : (i : Int) < p.names.length := by omega
   obtain ⟨ad, rfl, g0⟩ := strc_at HL.out.names i hil
   obtain ⟨s, hsg⟩ : ∃ s, p.names.getD i ByteArray.empty = s := ⟨_, rfl⟩
   have hmem : s ∈ p.names := by rw [← hsg, List.getD_eq_getElem?_getD, List.getElem?_eq_getElem hil]; exact List.getElem_mem _
   have hsz := HP.out.names.len s hmem
   rw [hsg] at g0
   have HSN : Aside0 ((p.names.take (i + 1)).flatMap txtL = (p.names.take i).flatMap txtL ++ txtL s) := ⟨by rw [txts_snoc p.names i hil, hsg]⟩
   have q0 := frd g0 HF.out
   have t0 := blk_cell HK.out 0
   have hlt := blk_lt HK.out
   clear hsg hmem g0
   go_wp2_with (first | (go_at_call 109; ((with_reducible refine (CT.out _ _ _ _ s HSa.out (by omega) (by rw [HQa.out]; have := HP.out.names.pre i; omega)).mono ?_); rintro e W2 ⟨A2, d2, q2, hq, rfl, hs, hF⟩; have HQ2 := AsM hq; have HS2 := AsM hs; have HF2 : Aside0 (Fr w W2 []) := ⟨HF.out.tr hF⟩; have HK2 := AsM (hF.bl HK.out); clear hq hs hF)))
   go_roundg (p.names.length - (i + 1))
   case measure => have := HM.out; omega
   case rel => exact ⟨i + 1, A2, d2, q2, rfl, by go_num, by omega, ⟨Nat.le_refl _⟩, ⟨by rw [HQ2.out, HQa.out, HSN.out, List.append_assoc]⟩, HS2, HF2, HK2⟩
  ·obtain rfl : i = p.names.length := by omega
   have n3 : decide (p.names.length < p.names.length) = false := by simp
   obtain ⟨t0, t0'⟩ := cc2 HK.out
   have hlt := blk_lt HK.out
   obtain ⟨Va, hV⟩ : ∃ V : World, V = wr := ⟨_, rfl⟩
   subst hV
   go_wp2_with (first | (go_at_call 29; ((with_reducible refine (rUint_0 _ (p.curs.length : Int) (by omega) (by omega)).mono ?_); rintro e W1 ⟨Ab, db, qb, hq, rfl, hs, hF⟩; have HQb := AsM hq; have HSb := AsM hs; have HK := AsM (hF.bl HK.out); have HF := AsM (HF.out.tr hF); have HSa := AsM (HSa.out.fr hF); clear hq hs hF)))
   clear t0 hlt n3
   go_loopg [5, 6] p.curs.length (fun kq s5 s6 wr => ∃ (i : Nat) (A : Option Addr) (c : Nat) (q : List Int), s5 = .slice A q.length c ∧ s6 = .int .i64 i ∧ i ≤ p.curs.length ∧ Aside0 (p.curs.length - i ≤ kq) ∧ Aside0 (q = uvar p.curs.length ++ (p.curs.take i).flatMap txtL) ∧ Aside0 (Sl wr A c q) ∧ Aside0 (Fr w wr []) ∧ Aside0 (wr.heap[pb]? = some (.cells #[.slice A0 p.names.length c0, .slice A1 p.curs.length c1, .slice A2 p.pool.length c2, .int .i64 p.hor, .int .i64 p.cel, .int .i64 p.slo, .int .i64 p.sta, .slice A7 p.days.length c7] 26 (0, 0))) ∧ Aside0 (Sl wr Aa da qa))
   case atStart => exact ⟨0, Ab, db, qb, rfl, rfl, Nat.zero_le _, ⟨Nat.le_refl _⟩, ⟨by rw [HQb.out, Int.toNat_natCast]; simp [poolL, daysL]⟩, HSb, HF, HK, HSa⟩
   case round =>
    clear HF HK HSb HQb HSa
    obtain ⟨i, Ab, db, qb, rfl, rfl, hi, HM, HQb, HSb, HF, HK, HSa⟩ := hrel
    by_cases hil : i < p.curs.length
    ·have n3 : decide (i < p.curs.length) = true := by simpa using hil
     have p0 : (0 : Int) ≤ (i : Int) := by omega
     have p1 : (i : Int) < p.curs.length := by omega
     obtain ⟨ad, rfl, g0⟩ := strc_at HL.out.curs i hil
     obtain ⟨s, hsg⟩ : ∃ s, p.curs.getD i ByteArray.empty = s := ⟨_, rfl⟩
     have hmem : s ∈ p.curs := by rw [← hsg, List.getD_eq_getElem?_getD, List.getElem?_eq_getElem hil]; exact List.getElem_mem _
     have hsz := HP.out.curs.len s hmem
     rw [hsg] at g0
     have HSN : Aside0 ((p.curs.take (i + 1)).flatMap txtL = (p.curs.take i).flatMap txtL ++ txtL s) := ⟨by rw [txts_snoc p.curs i hil, hsg]⟩
     have q0 := frd g0 HF.out
     have t0 := blk_cell HK.out 1
     have hlt := blk_lt HK.out
     clear hsg hmem g0
     go_wp2_with (first | (go_at_call 109; ((with_reducible refine (CT.out _ _ _ _ s HSb.out (by omega) (by rw [HQb.out]; have := HP.out.curs.pre i; omega)).mono ?_); rintro e W2 ⟨A2, d2, q2, hq, rfl, hs, hF⟩; have HQ2 := AsM hq; have HS2 := AsM hs; have HF2 : Aside0 (Fr w W2 []) := ⟨HF.out.tr hF⟩; have HK2 := AsM (hF.bl HK.out); have HSa := AsM (HSa.out.fr hF); clear hq hs hF)))
     go_roundg (p.curs.length - (i + 1))
     case measure => have := HM.out; omega
     case rel => exact ⟨i + 1, A2, d2, q2, rfl, by go_num, by omega, ⟨Nat.le_refl _⟩, ⟨by rw [HQ2.out, HQb.out, HSN.out, List.append_assoc]⟩, HS2, HF2, HK2, HSa⟩
    ·obtain rfl : i = p.curs.length := by omega
     have n3 : decide (p.curs.length < p.curs.length) = false := by simp
     have t0 := blk_cell HK.out 1
     have t0' := blk_cell HK.out 2
     have hlt := blk_lt HK.out
     obtain ⟨Vb, hV⟩ : ∃ V : World, V = wr := ⟨_, rfl⟩
     subst hV
     go_wp2_with (first | (go_at_call 29; ((with_reducible refine (rUint_0 _ (p.pool.length : Int) (by omega) (by omega)).mono ?_); rintro e W1 ⟨Ac, dc, qc, hq, rfl, hs, hF⟩; have HQc := AsM hq; have HSc := AsM hs; have HK := AsM (hF.bl HK.out); have HF := AsM (HF.out.tr hF); have HSa := AsM (HSa.out.fr hF); have HSb := AsM (HSb.out.fr hF); clear hq hs hF)))
     clear t0 hlt n3
     go_loopg [7, 8] p.pool.length (fun kq s7 s8 wr => ∃ (i : Nat) (A : Option Addr) (c : Nat) (q : List Int), s7 = .slice A q.length c ∧ s8 = .int .i64 i ∧ i ≤ p.pool.length ∧ Aside0 (p.pool.length - i ≤ kq) ∧ Aside0 (q = poolL p.pool i) ∧ Aside0 (Sl wr A c q) ∧ Aside0 (Fr w wr []) ∧ Aside0 (wr.heap[pb]? = some (.cells #[.slice A0 p.names.length c0, .slice A1 p.curs.length c1, .slice A2 p.pool.length c2, .int .i64 p.hor, .int .i64 p.cel, .int .i64 p.slo, .int .i64 p.sta, .slice A7 p.days.length c7] 26 (0, 0))) ∧ Aside0 (Sl wr Aa da qa) ∧ Aside0 (Sl wr Ab db qb))
     case atStart => exact ⟨0, Ac, dc, qc, rfl, rfl, Nat.zero_le _, ⟨Nat.le_refl _⟩, ⟨by rw [HQc.out, Int.toNat_natCast]; simp [poolL, daysL]⟩, HSc, HF, HK, HSa, HSb⟩
     case round =>
      clear HF HK HSc HQc HSa HSb
      obtain ⟨i, Ac, dc, qc, rfl, rfl, hi, HM, HQc, HSc, HF, HK, HSa, HSb⟩ := hrel
      by_cases hil : i < p.pool.length
      ·have n3 : decide (i < p.pool.length) = true := by simpa using hil
       have p0 : (0 : Int) ≤ (i : Int) := by omega
       have p1 : (i : Int) < p.pool.length := by omega
       obtain ⟨ad, rfl, g0⟩ := pl_at HL.out.pool i hil
       obtain ⟨x, hx⟩ : ∃ x, p.pool.getD i 0 = x := ⟨_, rfl⟩
       have hxm : x ∈ p.pool := by rw [← hx, List.getD_eq_getElem?_getD, List.getElem?_eq_getElem hil]; exact List.getElem_mem _
       have HX := AsM (HP.out.ints x hxm)
       rw [hx] at g0
       have q0 := frd g0 HF.out
       have t0 := blk_cell HK.out 2
       have hlt := blk_lt HK.out
       have HLN : Aside0 (qc.length ≤ 20000000) := ⟨by rw [HQc.out]; have := poolL_len HP.out.ints HP.out.pool i; omega⟩
       by_cases h0 : i = 0
       ·subst h0
        have HPI : Aside0 (poolI p.pool 0 = uvar (zig x)) := ⟨by unfold poolI; rw [if_pos rfl, hx]⟩
        have q0' : wr.cell? ad = some (.int .i64 x) := (add0 ad) ▸ q0
        clear hx hxm g0
        go_wp2_with (first | (go_at_call 30; ((with_reducible refine (CI.out _ _ _ _ x HSc.out HX.out (by have := HLN.out; omega)).mono ?_); rintro e W2 ⟨A2, d2, q2, hq, rfl, hs, hF⟩; have HQ2 := AsM hq; have HS2 := AsM hs; have HF2 : Aside0 (Fr w W2 []) := ⟨HF.out.tr hF⟩; have HK2 := AsM (hF.bl HK.out); have HSa := AsM (HSa.out.fr hF); have HSb := AsM (HSb.out.fr hF); clear hq hs hF)))
        go_roundg (p.pool.length - 1)
        case measure => have := HM.out; omega
        case rel => exact ⟨1, A2, d2, q2, rfl, by first | rfl | go_num, by omega, ⟨Nat.le_refl _⟩, ⟨by rw [HQ2.out, HQc.out, pool_snoc, HPI.out]⟩, HS2, HF2, HK2, HSa, HSb⟩
       ·obtain ⟨j, hj⟩ : ∃ j, i - 1 = j := ⟨_, rfl⟩
        obtain ⟨ad', e', g1⟩ := pl_at HL.out.pool j (by omega)
        obtain rfl : ad = ad' := by injection e'
        obtain ⟨y, hy⟩ : ∃ y, p.pool.getD j 0 = y := ⟨_, rfl⟩
        have hym : y ∈ p.pool := by rw [← hy, List.getD_eq_getElem?_getD, List.getElem?_eq_getElem (by omega)]; exact List.getElem_mem _
        have HY := AsM (HP.out.ints y hym)
        rw [hy] at g1
        have q1 := frd g1 HF.out
        have HPI : Aside0 (poolI p.pool i = uvar (poolD x y).toNat) := ⟨by unfold poolI; rw [if_neg h0, hx, hj, hy]⟩
        have hd : decide (i = 0) = false := decide_eq_false h0
        have p2 : (0 : Int) ≤ (j : Int) := by omega
        have p3 : (j : Int) < p.pool.length := by omega
        have hwr : IntKind.i64.wrap ((i : Int) - 1) = (j : Int) := by rw [i64_w]; unfold wrap64; omega
        have hwr' : wrap64 ((i : Int) - 1) = (j : Int) := by unfold wrap64; omega
        have HJ := AsM hj
        have HE : Aside0 (IntKind.u64.wrap (IntKind.u64.wrap (IntKind.u64.wrap x - IntKind.u64.wrap y) - 1) = poolD x y) := ⟨by rw [wrapU, wrapU, wrapU, wrapU]; unfold poolD; omega⟩
        have HD : Aside0 (0 ≤ poolD x y ∧ poolD x y < 18446744073709551616) := ⟨by unfold poolD; omega⟩
        clear hx hxm g0 e' hy hym g1 hj
        go_wp2
        go_region_held3 (fun w' => w'.cell? ⟨pb, 2, none⟩ = some (.slice (some ad) p.pool.length c2) ∧ w'.cell? (ad.add i) = some (.int .i64 x) ∧ w'.cell? (ad.add j) = some (.int .i64 y)) (first | exact ⟨y0, y1, y2⟩ | (refine ⟨frc (L := []) t0 ?_ List.not_mem_nil, frc (L := []) q0 ?_ List.not_mem_nil, frc (L := []) q1 ?_ List.not_mem_nil⟩ <;> exact FQ) | go_keep) (first
         | (go_at_call 29; rw [HE.out]; (with_reducible refine (CU.out _ _ _ _ _ (HSc.out.fr FQ) HD.out.1 HD.out.2 (by have := HLN.out; omega)).mono ?_); rintro e W2 ⟨A2, d2, q2, hq, rfl, hs, hF0⟩; have hF : Fr wr W2 [] := Fr.trans (L := []) (M := []) FQ hF0 (by simp); have HQ2 := AsM hq; have HS2 := AsM hs; have HF2 : Aside0 (Fr w W2 []) := ⟨HF.out.tr hF⟩; have HK2 := AsM (hF.bl HK.out); have HSa := AsM (HSa.out.fr hF); have HSb := AsM (HSb.out.fr hF); have y0 := frd t0 hF; have y1 := frd q0 hF; have y2 := frd q1 hF; clear hq hs hF hF0)
         | fail)
        go_wp2
        go_roundg (p.pool.length - (i + 1))
        case measure => have := HM.out; omega
        case rel => exact ⟨i + 1, A2, d2, q2, rfl, by first | rfl | go_num, by omega, ⟨Nat.le_refl _⟩, ⟨by rw [HQ2.out, HQc.out, pool_snoc, HPI.out]⟩, HS2, HF2, HK2, HSa, HSb⟩
      ·obtain rfl : i = p.pool.length := by omega
       have n3 : decide (p.pool.length < p.pool.length) = false := by simp
       have t0 := blk_cell HK.out 2
       have t0' := blk_cell HK.out 3
       have hlt := blk_lt HK.out
       obtain ⟨Vc, hV⟩ : ∃ V : World, V = wr := ⟨_, rfl⟩
       subst hV
       have t3 := blk_cell HK.out 3
       have e3 := uvar_len64 (x := p.hor) (by omega)
       have e4 := uvar_len64 (x := p.cel) (by omega)
       have e5 := uvar_len64 (x := p.slo) (by omega)
       go_wp2_with (first
        | (go_at_call 29; ((with_reducible refine (rUint_0 Ws3 (p.days.length : Int) (by omega) (by omega)).mono ?_); rintro e W1 ⟨Ae, de, qe, hq, rfl, hs, hF⟩; have HQe := AsM hq; have HSe := AsM hs; have HF := AsM (HF3.out.tr hF); have HK := AsM (hF.bl HK3.out); have HSa := AsM (HSa3_.out.fr hF); have HSb := AsM (HSb3_.out.fr hF); have HSc := AsM (HSc3_.out.fr hF); have HSd := AsM (HSd.out.fr hF); clear hq hs hF))
        | (go_at_call 29; ((with_reducible refine (CU.out Ws2 _ _ _ (p.sta : Int) HSs2.out (by omega) (by omega) (by rw [HQs2.out]; try (try simp only [List.length_append]); omega)).mono ?_); rintro e Ws3 ⟨Ad, dd, qd, hq, rfl, hs, hF⟩; have HQd : Aside0 (qd = uvar p.hor ++ uvar p.cel ++ uvar p.slo ++ uvar p.sta) := ⟨by rw [hq, HQs2.out]; rfl⟩; have HSd := AsM hs; have HF3 := AsM (HF2.out.tr hF); have HK3 := AsM (hF.bl HK2.out); have t7 := blk_cell HK3.out 7; have hlt3 := blk_lt HK3.out; have HSa3_ := AsM (HSa2_.out.fr hF); have HSb3_ := AsM (HSb2_.out.fr hF); have HSc3_ := AsM (HSc2_.out.fr hF); clear hq hs hF))
        | (go_at_call 29; ((with_reducible refine (CU.out Ws1 _ _ _ (p.slo : Int) HSs1.out (by omega) (by omega) (by rw [HQs1.out]; try (try simp only [List.length_append]); omega)).mono ?_); rintro e Ws2 ⟨As2, ds2, qs2, hq, rfl, hs, hF⟩; have HQs2 : Aside0 (qs2 = uvar p.hor ++ uvar p.cel ++ uvar p.slo) := ⟨by rw [hq, HQs1.out]; rfl⟩; have HSs2 := AsM hs; have HF2 := AsM (HF1.out.tr hF); have HK2 := AsM (hF.bl HK1.out); have t6 := blk_cell HK2.out 6; have hlt2 := blk_lt HK2.out; have HSa2_ := AsM (HSa1_.out.fr hF); have HSb2_ := AsM (HSb1_.out.fr hF); have HSc2_ := AsM (HSc1_.out.fr hF); clear hq hs hF))
        | (go_at_call 29; ((with_reducible refine (CU.out Ws0 _ _ _ (p.cel : Int) HSs0.out (by omega) (by omega) (by rw [HQs0.out]; try (try simp only [List.length_append]); omega)).mono ?_); rintro e Ws1 ⟨As1, ds1, qs1, hq, rfl, hs, hF⟩; have HQs1 : Aside0 (qs1 = uvar p.hor ++ uvar p.cel) := ⟨by rw [hq, HQs0.out]; rfl⟩; have HSs1 := AsM hs; have HF1 := AsM (HF0.out.tr hF); have HK1 := AsM (hF.bl HK0.out); have t5 := blk_cell HK1.out 5; have hlt1 := blk_lt HK1.out; have HSa1_ := AsM (HSa0_.out.fr hF); have HSb1_ := AsM (HSb0_.out.fr hF); have HSc1_ := AsM (HSc0_.out.fr hF); clear hq hs hF))
        | (go_at_call 29; ((with_reducible refine (rUint_0 _ (p.hor : Int) (by omega) (by omega)).mono ?_); rintro e Ws0 ⟨As0, ds0, qs0, hq, rfl, hs, hF⟩; have HQs0 : Aside0 (qs0 = uvar p.hor) := ⟨by rw [hq]; rfl⟩; have HSs0 := AsM hs; have HF0 := AsM (HF.out.tr hF); have HK0 := AsM (hF.bl HK.out); have t4 := blk_cell HK0.out 4; have hlt0 := blk_lt HK0.out; have HSa0_ := AsM (HSa.out.fr hF); have HSb0_ := AsM (HSb.out.fr hF); have HSc0_ := AsM (HSc.out.fr hF); clear hq hs hF))
        | fail)
       clear t0 t0' hlt n3 t3 e3 e4 e5 t4 t5 t6 t7 hlt0 hlt1 hlt2 hlt3
       go_loopg [10, 11, 12] p.days.length (fun kq s10 s11 s12 wr => ∃ (i : Nat) (A : Option Addr) (c : Nat) (q : List Int), s10 = .slice A q.length c ∧ s12 = .int .i64 i ∧ s11 = .int .i64 (lastD p.days i) ∧ i ≤ p.days.length ∧ Aside0 (p.days.length - i ≤ kq) ∧ Aside0 (q = daysL p.days i) ∧ Aside0 (Sl wr A c q) ∧ Aside0 (Fr w wr []) ∧ Aside0 (wr.heap[pb]? = some (.cells #[.slice A0 p.names.length c0, .slice A1 p.curs.length c1, .slice A2 p.pool.length c2, .int .i64 p.hor, .int .i64 p.cel, .int .i64 p.slo, .int .i64 p.sta, .slice A7 p.days.length c7] 26 (0, 0))) ∧ Aside0 (Sl wr Aa da qa) ∧ Aside0 (Sl wr Ab db qb) ∧ Aside0 (Sl wr Ac dc qc) ∧ Aside0 (Sl wr Ad dd qd))
       case atStart => exact ⟨0, Ae, de, qe, rfl, rfl, rfl, Nat.zero_le _, ⟨Nat.le_refl _⟩, ⟨by rw [HQe.out, Int.toNat_natCast]; simp [poolL, daysL]⟩, HSe, HF, HK, HSa, HSb, HSc, HSd⟩
       case round =>
        clear HF HK HSe HQe HSa HSb HSc HSd
        obtain ⟨i, Ae, de, qe, rfl, rfl, rfl, hi, HM, HQe, HSe, HF, HK, HSa, HSb, HSc, HSd⟩ := hrel
        by_cases hil : i < p.days.length
        ·have n3 : decide (i < p.days.length) = true := by simpa using hil
         have p0 : (0 : Int) ≤ (i : Int) := by omega
         have p1 : (i : Int) < p.days.length := by omega
         obtain ⟨ad, B, cb, rfl, g0, g1, hcap, hC⟩ := dy_at HL.out.days i hil
         have hmem := seg_mem hil
         have HDI : Aside0 (daysL p.days (i + 1) = daysL p.days i ++ dayI p.days i) := ⟨days_snoc p.days i⟩
         have HLD : Aside0 (lastD p.days (i + 1) = (p.days.getD i z54).f0) := ⟨rfl⟩
         have HDE : Aside0 (dayI p.days i = uvar (poolD (p.days.getD i z54).f0 (lastD p.days i)).toNat ++ (uvar (p.days.getD i z54).f1.length ++ (uvar (codeL (p.days.getD i z54).f1).length ++ codeL (p.days.getD i z54).f1))) := ⟨rfl⟩
         have HLN : Aside0 (qe.length ≤ 2000000000000) := ⟨by rw [HQe.out]; have := daysL_len HP.out.days i hi; omega⟩
         obtain ⟨last, hla⟩ : ∃ l, lastD p.days i = l := ⟨_, rfl⟩
         obtain ⟨s, hsg⟩ : ∃ s, p.days.getD i z54 = s := ⟨_, rfl⟩
         rw [hla] at HDE ⊢
         rw [hsg] at g0 g1 hcap hC hmem HLD HDE
         have hok := HP.out.days.ok s hmem
         obtain ⟨day, code⟩ := s
         simp only at g0 g1 hcap hC hok HLD HDE
         have q0 := frd g0 HF.out
         have q1 := frd g1 HF.out
         have hcl := hok.most
         have CE : Aside0 (∀ W, Fr w W [] → Calls Tryz.prog 110 #[.slice B code.length cb] W fun e w' => ∃ A c q, q = codeL code ∧ e = .returned (.tuple #[.slice A q.length c, .int .i64 0]) ∧ Kd.C (Kd.int .u8) w' A q.length q ∧ Fr W w' []) := ⟨fun W h => (rEncode_calls B cb code W (HG.out.fr0 h) (Kd.C_below hC h.below) hok).mono fun e w' ⟨v, h1, h2, h3⟩ => by
          obtain ⟨A', c', rfl, _, h4⟩ := h2.reads
          exact ⟨A', c', _, rfl, h1, h4, h3⟩⟩
         have HSZ : Aside0 (sB (strOfNums (codeL code)) = codeL code ∧ (strOfNums (codeL code)).size = (codeL code).length) := ⟨⟨sB_nums hok.byte, strOfNums_size _⟩⟩
         obtain ⟨st, hst⟩ : ∃ st, strOfNums (codeL code) = st := ⟨_, rfl⟩
         rw [hst] at HSZ
         have HST := AsM hst
         have HCL : Aside0 ((codeL code).length ≤ 10000000) := ⟨hok.full⟩
         have HE : Aside0 (IntKind.u64.wrap (wrap64 (wrap64 (day - last) - 1)) = poolD day last) := ⟨by rw [wrapU]; unfold poolD wrap64; omega⟩
         have HD : Aside0 (0 ≤ poolD day last ∧ poolD day last < 18446744073709551616) := ⟨by unfold poolD; omega⟩
         have U1 : Aside0 ((uvar (poolD day last).toNat).length ≤ 11) := ⟨uvar_len64 (by unfold poolD; omega)⟩
         have U2 : Aside0 ((uvar code.length).length ≤ 11) := ⟨uvar_len64 (by omega)⟩
         have t7 := blk_cell HK.out 7
         have hlt := blk_lt HK.out
         have hus := Tryz.underlying54
         have G0 := AsM g0
         have G1 := AsM g1
         clear hC hsg hmem hst hok hla g0 g1
         go_wp2_with (first
          | (go_at_call 109; ((with_reducible refine (CT.out Y3 _ _ _ st HS3.out (by have := HSZ.out.2; have := HCL.out; omega) (by rw [HQ2.out, HQ1.out]; have := HLN.out; have := U1.out; have := U2.out; simp only [List.length_append, Int.toNat_natCast]; omega)).mono ?_); rintro e Y4 ⟨A4', d4', q4', hq, rfl, hs, hF⟩; have HQ4 := AsM hq; have HS4 := AsM hs; have HF4 := AsM (HF3.out.tr hF); have HK4 := AsM (hF.bl HK3.out); have HSa4_ := AsM (HSa3_.out.fr hF); have HSb4_ := AsM (HSb3_.out.fr hF); have HSc4_ := AsM (HSc3_.out.fr hF); have HSd4_ := AsM (HSd3_.out.fr hF); clear hq hs hF))
          | (go_at_call 110; ((with_reducible refine (CE.out _ HF2.out).mono ?_); rintro e Y3 ⟨A3', d3', q3', hq3, rfl, hC3, hF⟩; have hcv : (convert 32 9 (.slice A3' q3'.length d3')).run Tryz.prog Y3 = .ok (.string st) Y3 := (by rw [← HST.out, ← hq3]; exact Kd.C_string Tryz.underlying32 Tryz.underlying5 Tryz.underlying9 hC3); have HS3 := AsM (HS2.out.fr hF); have HF3 := AsM (HF2.out.tr hF); have HK3 := AsM (hF.bl HK2.out); have HSa3_ := AsM (HSa2_.out.fr hF); have HSb3_ := AsM (HSb2_.out.fr hF); have HSc3_ := AsM (HSc2_.out.fr hF); have HSd3_ := AsM (HSd2_.out.fr hF); clear hF hC3 hq3))
          | (go_at_call 29; ((with_reducible refine (CU.out Y1 _ _ _ (code.length : Int) HS1.out (by omega) (by omega) (by rw [HQ1.out]; have := HLN.out; have := U1.out; simp only [List.length_append]; omega)).mono ?_); rintro e Y2 ⟨A2', d2', q2', hq, rfl, hs, hF⟩; have HQ2 := AsM hq; have HS2 := AsM hs; have HF2 := AsM (HF1.out.tr hF); have HK2 := AsM (hF.bl HK1.out); have ut2 := blk_cell HK2.out 7; have ul2 := blk_lt HK2.out; have u12 := frd G1.out HF2.out; have HSa2_ := AsM (HSa1_.out.fr hF); have HSb2_ := AsM (HSb1_.out.fr hF); have HSc2_ := AsM (HSc1_.out.fr hF); have HSd2_ := AsM (HSd1_.out.fr hF); clear hq hs hF))
          | (go_at_call 29; (rw [HE.out]; (with_reducible refine (CU.out _ _ _ _ _ HSe.out HD.out.1 HD.out.2 (by have := HLN.out; omega)).mono ?_); rintro e Y1 ⟨A1', d1', q1', hq, rfl, hs, hF⟩; have HQ1 := AsM hq; have HS1 := AsM hs; have HF1 := AsM (HF.out.tr hF); have HK1 := AsM (hF.bl HK.out); have ut1 := blk_cell HK1.out 7; have ul1 := blk_lt HK1.out; have u01 := frd G0.out HF1.out; have u11 := frd G1.out HF1.out; have HSa1_ := AsM (HSa.out.fr hF); have HSb1_ := AsM (HSb.out.fr hF); have HSc1_ := AsM (HSc.out.fr hF); have HSd1_ := AsM (HSd.out.fr hF); clear hq hs hF))
          | fail)
         go_roundg (p.days.length - (i + 1))
         case measure => have := HM.out; omega
         case rel => exact ⟨i + 1, A4', d4', q4', rfl, by go_num, by rw [HLD.out], by omega, ⟨Nat.le_refl _⟩, ⟨by rw [HQ4.out, HQ2.out, HQ1.out, HQe.out, HDI.out, HDE.out]; unfold txtL; rw [HSZ.out.1, HSZ.out.2, Int.toNat_natCast]; simp only [List.append_assoc]⟩, HS4, HF4, HK4, HSa4_, HSb4_, HSc4_, HSd4_⟩
        ·obtain rfl : i = p.days.length := by omega
         have n3 : decide (p.days.length < p.days.length) = false := by simp
         have t0 := blk_cell HK.out 7
         have t0' := blk_cell HK.out 8
         have hlt := blk_lt HK.out
         obtain ⟨Ve, hV⟩ : ∃ V : World, V = wr := ⟨_, rfl⟩
         subst hV
         clear t0'
         have hsec := Tryz.underlying50
         have HSL : Aside0 (qa = p.body 0 ∧ qb = p.body 1 ∧ qc = p.body 2 ∧ qd = p.body 3 ∧ qe = p.body 4) := ⟨⟨by rw [HQa.out, List.take_of_length_le (Nat.le_refl _)]; rfl, by rw [HQb.out, List.take_of_length_le (Nat.le_refl _)]; rfl, HQc.out, by rw [HQd.out]; simp [Prg.body, sizesL], HQe.out⟩⟩
         go_wp2
         go_ret
         have hs : p.secs = [⟨1, qa⟩, ⟨2, qb⟩, ⟨3, qc⟩, ⟨4, qd⟩, ⟨5, qe⟩] := by
          obtain ⟨e0, e1, e2, e3, e4⟩ := HSL.out
          rw [e0, e1, e2, e3, e4]
          rfl
         rw [hs]
         refine ⟨_, rfl, ?_, HF.out.alloc _⟩
         exact secs_C [(⟨1, qa⟩, Aa, da), (⟨2, qb⟩, Ab, db), (⟨3, qc⟩, Ac, dc), (⟨4, qd⟩, Ad, dd), (⟨5, qe⟩, Ae, de)] (fun x hx => by
          simp only [List.mem_cons, List.not_mem_nil, or_false] at hx
          rcases hx with rfl | rfl | rfl | rfl | rfl
          ·exact HSa.out.fr ((Fr.refl _ []).alloc _)
          ·exact HSb.out.fr ((Fr.refl _ []).alloc _)
          ·exact HSc.out.fr ((Fr.refl _ []).alloc _)
          ·exact HSd.out.fr ((Fr.refl _ []).alloc _)
          ·exact HSe.out.fr ((Fr.refl _ []).alloc _)) (by simp) (blk_newN rfl)
theorem rImage_calls (P : Prg) (hp : P.Ok) (A0 : Option Addr) (c0 : Nat) (A1 : Option Addr) (c1 : Nat) (A2 : Option Addr) (c2 : Nat) (A7 : Option Addr) (c7 : Nat) (w : World) (G : TabW w) (hl : P.Lies w A0 A1 A2 A7)
  (hcan : ∀ W, Fr w W [] → Calls Tryz.prog 75 #[.agg #[.slice A0 P.names.length c0, .slice A1 P.curs.length c1, .slice A2 P.pool.length c2, .int .i64 P.hor, .int .i64 P.cel, .int .i64 P.slo, .int .i64 P.sta, .slice A7 P.days.length c7]] W fun e w' => e = .returned (.int .i64 0) ∧ Fr W w' []) :
  Calls Tryz.prog 45 #[.agg #[.slice A0 P.names.length c0, .slice A1 P.curs.length c1, .slice A2 P.pool.length c2, .int .i64 P.hor, .int .i64 P.cel, .int .i64 P.slo, .int .i64 P.sta, .slice A7 P.days.length c7]] w fun e w' => ∃ A c q, q = sealL (sB ⟨#[80, 65, 89, 79, 70, 70, 49, 10]⟩) P.secs ∧ e = .returned (.tuple #[.slice A q.length c, .int .i64 0]) ∧ Sl w' A c q ∧ Fr w w' [] := by
 have HCN := AsM hcan
 have CB : Aside0 (∀ W, Fr w W [] → Calls Tryz.prog 76 #[.agg #[.slice A0 P.names.length c0, .slice A1 P.curs.length c1, .slice A2 P.pool.length c2, .int .i64 P.hor, .int .i64 P.cel, .int .i64 P.slo, .int .i64 P.sta, .slice A7 P.days.length c7]] W fun e w' => ∃ g, e = .returned (.slice (some ⟨g, 0, none⟩) 5 5) ∧ Kd.C k50 w' (some ⟨g, 0, none⟩) 5 P.secs ∧ Fr W w' []) := ⟨fun W h => bodies_calls P hp A0 c0 A1 c1 A2 c2 A7 c7 W (G.fr0 h) (hl.fr h)⟩
 have CS : Aside0 (∀ W g, Kd.C k50 W (some ⟨g, 0, none⟩) 5 P.secs → Calls Tryz.prog 16 #[.string ⟨#[80, 65, 89, 79, 70, 70, 49, 10]⟩, .slice (some ⟨g, 0, none⟩) 5 5] W fun e w' => ∃ B d q, q = sealL (sB ⟨#[80, 65, 89, 79, 70, 70, 49, 10]⟩) P.secs ∧ e = .returned (.tuple #[.slice B q.length d, .int .i64 0]) ∧ Sl w' B d q ∧ Fr W w' []) := ⟨fun W g h => rSeal_calls (some ⟨g, 0, none⟩) 5 P.secs _ (by decide) W h (Nat.le_refl _) (Prg.secsOk hp)⟩
 have hup := Tryz.underlying26
 clear hcan G hl hp
 go_enter Tryz.func45, Tryz.ntmps45
 go_wp2_with (first
  | (go_at_call 75; ((with_reducible refine (HCN.out _ FQ).mono ?_); rintro e W1 ⟨rfl, hF⟩; have hk1 := hF.blk (g := w.heap.size) (o := .cells #[.slice A0 P.names.length c0, .slice A1 P.curs.length c1, .slice A2 P.pool.length c2, .int .i64 P.hor, .int .i64 P.cel, .int .i64 P.slo, .int .i64 P.sta, .slice A7 P.days.length c7] 26 (0, 0)) (blk_newN rfl) (by simp); obtain ⟨k0, k1, k2, k3, k4, k5, k6, k7⟩ := cc8 hk1; have hlt := blk_lt hk1; have HF1 : Aside0 (Fr w W1 []) := ⟨Fr.trans (L := []) (M := []) FQ hF (by simp)⟩; clear hF hk1))
  | (go_at_call 76; ((with_reducible refine (CB.out _ HF1.out).mono ?_); rintro e W2 ⟨g, rfl, hC, hF⟩; have HC2 := AsM hC; have HF2 := AsM (HF1.out.tr hF); clear hC hF))
  | (go_at_call 16; ((with_reducible refine (CS.out _ _ HC2.out).mono ?_); rintro e W3 ⟨B, d, q, hq, rfl, hs, hF⟩; have HQ3 := AsM hq; have HS3 := AsM hs; have HF3 := AsM (HF2.out.tr hF); clear hq hs hF)))
 go_ret2
 exact ⟨_, _, q, HQ3.out, rfl, HS3.out, HF3.out⟩
theorem rMark_calls (p : Prg) (v0 v1 v2 v3 v4 v5 v6 v7 : Value) (w : World)
  (hen : ∀ W, Fr w W [] → Calls Tryz.prog 45 #[.agg #[v0, v1, v2, v3, v4, v5, v6, v7]] W fun e w' => ∃ A c q, q = sealL (sB ⟨#[80, 65, 89, 79, 70, 70, 49, 10]⟩) p.secs ∧ e = .returned (.tuple #[.slice A q.length c, .int .i64 0]) ∧ Sl w' A c q ∧ Fr W w' []) :
  Calls Tryz.prog 31 #[.agg #[v0, v1, v2, v3, v4, v5, v6, v7]] w (RowP p.mark w) := by
 have HEN := AsM hen
 clear hen
 obtain ⟨m, hm⟩ := seal_four (sB ⟨#[80, 65, 89, 79, 70, 70, 49, 10]⟩) p.secs
 have HM := AsM hm
 clear hm
 have hup := Tryz.underlying26
 have hub := Tryz.underlying32
 go_enter Tryz.func31, Tryz.ntmps31
 go_wp2_with (first
  | (go_at_call 45; ((with_reducible refine (HEN.out _ ?_).mono ?_); (next => exact FQ); rintro e W1 ⟨A1, c1, q, rfl, rfl, hs, hF⟩; have HS1 := AsM (mark_cut hs.2 HM.out hs.1); have hml : m + 4 ≤ 9223372036854775807 := (HM.out ▸ hs.2.2.1); have hw : IntKind.i64.wrap ((m : Int) + 4 - 4) = m := (by rw [i64_w]; unfold wrap64; omega); have hcm : ¬ c1 = m := (by have := HM.out; have := hs.1; omega); have hsl := slice_off A1 (m + 4) c1 m (by omega) hcm; have hd4 : decide ((m : Int) + 4 < 4) = false := decide_eq_false (by omega); rw [HM.out]; have HF1 : Aside0 (Fr w W1 []) := ⟨Fr.trans (L := []) (M := []) FQ hF (by simp)⟩; clear hs hF)))
 go_ret
 exact ⟨_, _, p.mark, rfl, (by rw [p.mark_length]; rfl), HS1.out, HF1.out⟩
theorem nil_sl (W : World) : Sl W none 0 [] := ⟨Nat.le_refl _, (Buf.nil False W 0).reads.elim fun A h => by obtain ⟨c, e, _, h⟩ := h; injection e with e1 _ _; subst e1; exact h⟩
theorem rInt_B (b : Nat) (W : World) (v : Value) (l : List Int) (x : Int) (hB : Buf False W b v l) (hb : b ≤ W.heap.size) (hx : -9223372036854775808 ≤ x ∧ x < 9223372036854775808) (hl : l.length ≤ 130000000000000) :
  Calls Tryz.prog 30 #[v, .int .i64 x] W fun e w' => ∃ v', e = .returned v' ∧ Buf False w' b v' (l ++ zigL x) ∧ Fr W w' [] := by
 obtain ⟨A, c, rfl, hc, hC⟩ := hB.reads
 refine (rAppendInt_calls A c l hx W hC hc hl).mono fun e w' h => ?_
 obtain ⟨_, _, _, _, _, _, hF⟩ := h.sl
 obtain ⟨v', h1, h2, h3⟩ := h
 exact ⟨v', h1, (Buf.of_own (Kd.own_of_R h2)).lower hb, hF⟩
theorem sections_calls (P : Prg) (s : Stt) (hs : s.Ok) (A0 : Option Addr) (c0 : Nat) (A1 : Option Addr) (c1 : Nat) (A2 : Option Addr) (c2 : Nat) (A7 : Option Addr) (c7 : Nat) (B2 : Option Addr) (d2 : Nat) (B3 : Option Addr) (d3 : Nat) (w : World) (hl2 : Kd.C (Kd.int .i64) w B2 s.l2.length s.l2) (hl3 : Kd.C (Kd.slice 45 k45) w B3 s.l3.length s.l3)
  (hmark : ∀ W, Fr w W [] → Calls Tryz.prog 31 #[.agg #[.slice A0 P.names.length c0, .slice A1 P.curs.length c1, .slice A2 P.pool.length c2, .int .i64 P.hor, .int .i64 P.cel, .int .i64 P.slo, .int .i64 P.sta, .slice A7 P.days.length c7]] W (RowP P.mark W)) :
  Calls Tryz.prog 17 #[.agg #[.slice A0 P.names.length c0, .slice A1 P.curs.length c1, .slice A2 P.pool.length c2, .int .i64 P.hor, .int .i64 P.cel, .int .i64 P.slo, .int .i64 P.sta, .slice A7 P.days.length c7], .agg #[.int .i64 s.n0, .int .i64 s.n1, .slice B2 s.l2.length d2, .slice B3 s.l3.length d3, .int .i64 s.n4, .int .i64 s.n5]] w fun e w' => ∃ g, e = .returned (.slice (some ⟨g, 0, none⟩) 4 4) ∧ Kd.C k50 w' (some ⟨g, 0, none⟩) 4 (s.secs P.mark) ∧ Fr w w' [] := by
 have CM := AsM hmark
 have HS := AsM hs
 have H2 := AsM hl2
 have H3 := AsM hl3
 have m2 := hs.l2
 have m3 := hs.l3
 have g0 := hs.h0
 have g1 := hs.h1
 have g4 := hs.h4
 have g5 := hs.h5
 have hut := Tryz.underlying30
 have hup := Tryz.underlying26
 have hcu := Tryz.underlying45
 have CU : Aside0 (∀ W A c l (x : Int), Sl W A c l → 0 ≤ x → x < 18446744073709551616 → l.length ≤ 130000000000000 → Calls Tryz.prog 29 #[.slice A l.length c, .int .u64 x] W (RowP (l ++ uvar x.toNat) W)) := ⟨fun W A c l x h1 h2 h3 h4 => rUint_C x h1 h2 h3 h4⟩
 have CI : Aside0 (∀ W A c l (x : Int), Sl W A c l → (-9223372036854775808 ≤ x ∧ x < 9223372036854775808) → l.length ≤ 130000000000000 → Calls Tryz.prog 30 #[.slice A l.length c, .int .i64 x] W (RowP (l ++ zigL x) W)) := ⟨fun W A c l x h1 h2 h3 => (rAppendInt_calls A c l h2 W h1.2 h1.1 h3).mono fun e w' h => h.sl⟩
 have CB : Aside0 (∀ b W v l x, Buf False W b v l → b ≤ W.heap.size → (-9223372036854775808 ≤ x ∧ x < 9223372036854775808) → l.length ≤ 130000000000000 → Calls Tryz.prog 30 #[v, .int .i64 x] W fun e w' => ∃ v', e = .returned v' ∧ Buf False w' b v' (l ++ zigL x) ∧ Fr W w' []) := ⟨fun b W v l x h1 h2 h3 h4 => rInt_B b W v l x h1 h2 h3 h4⟩
 have e0 := uvar_len64 (x := s.n0) (by omega)
 have e1 := uvar_len64 (x := s.n1) (by omega)
 have e2 := uvar_len64 (x := s.n4) (by omega)
 clear hmark hl2 hl3 hs
 go_enter Tryz.func17, Tryz.ntmps17
 go_wp2_with (first
  | (go_at_call 29; ((with_reducible refine (CU.out W3 _ _ _ (s.n5 : Int) HQ3.out (by omega) (by omega) (by rw [HE3.out]; simp only [List.length_append, Int.toNat_natCast]; omega)).mono ?_); rintro e W4 ⟨A4, x4, q4, hq, rfl, hs, hF⟩; have HE4 : Aside0 (q4 = s.two) := ⟨by rw [hq, HE3.out]; simp [Stt.two, Stt.nums]⟩; have HQ4 := AsM hs; have HF4 := AsM (HF3.out.tr hF); have HK4 := AsM (hF.bl HK3.out); have HT4 := AsM (hF.bl HT3.out); have t2 := blk_cell HT4.out 2; have hl4 := blk_lt HT4.out; clear hq hs hF))
  | (go_at_call 29; ((with_reducible refine (CU.out W2 _ _ _ (s.n4 : Int) HQ2.out (by omega) (by omega) (by rw [HE2.out]; simp only [List.length_append, Int.toNat_natCast]; omega)).mono ?_); rintro e W3 ⟨A3, x3, q3, hq, rfl, hs, hF⟩; have HE3 : Aside0 (q3 = uvar s.n0 ++ uvar s.n1 ++ uvar s.n4) := ⟨by rw [hq, HE2.out, Int.toNat_natCast]⟩; have HQ3 := AsM hs; have HF3 := AsM (HF2.out.tr hF); have HK3 := AsM (hF.bl HK2.out); have HT3 := AsM (hF.bl HT2.out); have t5 := blk_cell HT3.out 5; have hl3 := blk_lt HT3.out; clear hq hs hF))
  | (go_at_call 29; ((with_reducible refine (CU.out W1 _ _ _ (s.n1 : Int) HQ1.out (by omega) (by omega) (by rw [HE1.out]; omega)).mono ?_); rintro e W2 ⟨A2', x2, q2, hq, rfl, hs, hF⟩; have HE2 : Aside0 (q2 = uvar s.n0 ++ uvar s.n1) := ⟨by rw [hq, HE1.out, Int.toNat_natCast]⟩; have HQ2 := AsM hs; have HF2 := AsM (HF1.out.tr hF); have HK2 := AsM (hF.bl HK1.out); have HT2 := AsM (hF.bl HT1.out); have t4 := blk_cell HT2.out 4; have hl2 := blk_lt HT2.out; clear hq hs hF))
  | (go_at_call 29; ((with_reducible refine (rUint_0 _ (s.n0 : Int) (by omega) (by omega)).mono ?_); rintro e W1 ⟨A1', x1, q1, hq, rfl, hs, hF⟩; have HE1 : Aside0 (q1 = uvar s.n0) := ⟨by rw [hq, Int.toNat_natCast]⟩; have HQ1 := AsM hs; have HK1 := AsM (hF.blk (g := w.heap.size) (o := .cells #[.slice A0 P.names.length c0, .slice A1 P.curs.length c1, .slice A2 P.pool.length c2, .int .i64 P.hor, .int .i64 P.cel, .int .i64 P.slo, .int .i64 P.sta, .slice A7 P.days.length c7] 26 (0, 0)) (blk_alloc (blk_newN rfl) _) (by simp)); have HT1 := AsM (hF.blk (g := w.heap.size + 1) (o := .cells #[.int .i64 s.n0, .int .i64 s.n1, .slice B2 s.l2.length d2, .slice B3 s.l3.length d3, .int .i64 s.n4, .int .i64 s.n5] 30 (0, 0)) (blk_newN (by simp)) (by simp)); have HF1 : Aside0 (Fr w W1 []) := ⟨Fr.trans (L := []) (M := []) FQ hF (by simp)⟩; have t1 := blk_cell HT1.out 1; have hl1 := blk_lt HT1.out; clear hq hs hF))
  | fail)
 obtain ⟨sb, hsb⟩ : ∃ sb, w.heap.size + 1 = sb := ⟨_, rfl⟩
 obtain ⟨pb, hpb⟩ : ∃ pb, w.heap.size = pb := ⟨_, rfl⟩
 rw [hsb] at HT4 ⊢
 rw [hpb] at HK4 ⊢
 clear t1 t4 t5 t2 hl1 hl2 hl3 hl4 HK1 HK2 HK3 HT1 HT2 HT3 HF1 HF2 HF3 HQ1 HQ2 HQ3 HE1 HE2 HE3 e0 e1 e2
 obtain ⟨V2, hV2⟩ : ∃ V2 : World, V2 = W4 := ⟨_, rfl⟩
 subst hV2
 go_loopg [6, 8] s.l2.length (fun kq s6 s8 w3 => ∃ (i : Nat) (A : Option Addr) (c : Nat) (q : List Int), s6 = .slice A q.length c ∧ s8 = .int .i64 i ∧ i ≤ s.l2.length ∧ Aside0 (s.l2.length - i ≤ kq) ∧ Aside0 (Fr V2 w3 []) ∧ Aside0 (q = (s.l2.take i).flatMap zigL) ∧ Aside0 (Sl w3 A c q))
 case atStart => exact ⟨0, none, 0, [], rfl, rfl, by omega, ⟨Nat.le_refl _⟩, ⟨Fr.refl _ _⟩, ⟨rfl⟩, ⟨nil_sl _⟩⟩
 case round =>
  obtain ⟨i, A6, c6, q6, rfl, rfl, hi, HMi, HFi, HE6, HQ6⟩ := hrel
  have t2 := blk_cell (HFi.out.bl HT4.out) 2
  have hlt := blk_lt (HFi.out.bl HT4.out)
  by_cases hil : i < s.l2.length
  ·have n3 : decide (i < s.l2.length) = true := by simpa using hil
   have p0 : (0 : Int) ≤ (i : Int) := by omega
   have p1 : (i : Int) < s.l2.length := by omega
   obtain ⟨ad, rfl, g9⟩ := pl_at H2.out i hil
   obtain ⟨x, hx⟩ : ∃ x, s.l2.getD i 0 = x := ⟨_, rfl⟩
   have hxm : x ∈ s.l2 := by rw [← hx, List.getD_eq_getElem?_getD, List.getElem?_eq_getElem hil]; exact List.getElem_mem _
   have HX := AsM (HS.out.i2 x hxm)
   have HSN := AsM (fm_snoc zigL 0 s.l2 i hil)
   rw [hx] at g9 HSN
   have q0 := frc g9 (HF4.out.tr HFi.out) (by simp)
   clear hx hxm g9
   go_wp2_with (first | (go_at_call 30; ((with_reducible refine (CI.out _ _ _ _ x HQ6.out HX.out (by rw [HE6.out]; have := HS.out.three_len i; omega)).mono ?_); rintro e W5 ⟨A5, c5, q5, hq, rfl, hs, hF⟩; have HE5 := AsM hq; have HQ5 := AsM hs; have HF5 := AsM (HFi.out.tr hF); clear hq hs hF)))
   go_roundg (s.l2.length - (i + 1))
   case measure => have := HMi.out; omega
   case rel => exact ⟨i + 1, A5, c5, q5, rfl, by go_num, by omega, ⟨Nat.le_refl _⟩, HF5, ⟨by rw [HE5.out, HE6.out, HSN.out]⟩, HQ5⟩
  ·obtain rfl : i = s.l2.length := by omega
   have n3 : decide (s.l2.length < s.l2.length) = false := by simp
   obtain ⟨V3, hV3⟩ : ∃ V3 : World, V3 = wr := ⟨_, rfl⟩
   subst hV3
   have HE6' : Aside0 (q6 = s.three) := ⟨by rw [HE6.out, List.take_of_length_le (Nat.le_refl _)]; rfl⟩
   have HQ4' := AsM (HQ4.out.fr HFi.out)
   have HFV3 : Aside0 (Fr w V3 []) := ⟨HF4.out.tr HFi.out⟩
   have HKV3 := AsM (HFi.out.bl HK4.out)
   have HSV3 := AsM (HFi.out.bl HT4.out)
   have t3 := blk_cell HSV3.out 3
   clear HFi HQ4 HF4 HK4 HT4 H2 HE6
   go_wp2
   clear t2 t3 hlt n3
   go_loopg [7, 9] s.l3.length (fun kq s7 s9 w3 => ∃ i : Nat, s9 = .int .i64 i ∧ i ≤ s.l3.length ∧ Aside0 (s.l3.length - i ≤ kq) ∧ Aside0 (Fr V3 w3 []) ∧ Aside0 (Buf False w3 V3.heap.size s7 ((s.l3.take i).flatMap rowL)))
   case atStart => exact ⟨0, rfl, by omega, ⟨Nat.le_refl _⟩, ⟨Fr.refl _ _⟩, ⟨Buf.nil _ _ _⟩⟩
   case round =>
    obtain ⟨i, rfl, hi, HMi, HFi, HBi⟩ := hrel
    have t3 := blk_cell (HFi.out.bl HSV3.out) 3
    have hlt := blk_lt (HFi.out.bl HSV3.out)
    by_cases hil : i < s.l3.length
    ·have n3 : decide (i < s.l3.length) = true := by simpa using hil
     have p0 : (0 : Int) ≤ (i : Int) := by omega
     have p1 : (i : Int) < s.l3.length := by omega
     obtain ⟨ad, R, cR, rfl, g9, hR⟩ := rw_at H3.out i hil
     obtain ⟨r, hx⟩ : ∃ x, s.l3.getD i [] = x := ⟨_, rfl⟩
     have hxm : r ∈ s.l3 := by rw [← hx, List.getD_eq_getElem?_getD, List.getElem?_eq_getElem hil]; exact List.getElem_mem _
     have HRI := AsM (HS.out.i3 r hxm)
     have HRL := AsM (HS.out.r3 r hxm)
     have mr := HRL.out
     have HSN := AsM (fm_snoc rowL [] s.l3 i hil)
     rw [hx] at g9 HSN hR
     have HR := AsM hR
     have G9 := AsM g9
     clear hx hxm g9 hR
     obtain ⟨wo, hwo⟩ : ∃ wo : World, wo = wr := ⟨_, rfl⟩
     subst hwo
     go_wp2
     clear t3 hlt
     go_loopg [7, 10] r.length (fun kq s7 s10 w3 => ∃ j : Nat, s10 = .int .i64 j ∧ j ≤ r.length ∧ Aside0 (r.length - j ≤ kq) ∧ Aside0 (Fr V3 w3 []) ∧ Aside0 (Buf False w3 V3.heap.size s7 ((s.l3.take i).flatMap rowL ++ (r.take j).flatMap celL)))
     case atStart => exact ⟨0, rfl, by omega, ⟨Nat.le_refl _⟩, HFi, ⟨by simpa using HBi.out⟩⟩
     case round =>
      obtain ⟨j, rfl, hj, HMj, HFj, HBj⟩ := hrel
      have t3 := blk_cell (HFj.out.bl HSV3.out) 3
      have hlt := blk_lt (HFj.out.bl HSV3.out)
      have q0 := frc G9.out (HFV3.out.tr HFj.out) (by simp)
      by_cases hjl : j < r.length
      ·have n4 : decide (j < r.length) = true := by simpa using hjl
       have p2 : (0 : Int) ≤ (j : Int) := by omega
       have p3 : (j : Int) < r.length := by omega
       obtain ⟨ac, rfl, e0, e1⟩ := cl_at HR.out j hjl
       obtain ⟨x, hx⟩ : ∃ x, r.getD j z45 = x := ⟨_, rfl⟩
       have hxm : x ∈ r := by rw [← hx, List.getD_eq_getElem?_getD, List.getElem?_eq_getElem hjl]; exact List.getElem_mem _
       have HX := AsM (HRI.out x hxm)
       have HSJ := AsM (fm_snoc celL z45 r j hjl)
       have HLN : Aside0 (((s.l3.take i).flatMap rowL ++ (r.take j).flatMap celL).length ≤ 130000000) := ⟨by have h1 := HS.out.four_len i; have h2 := rowL_len HRL.out HRI.out j; rw [List.length_append]; omega⟩
       rw [hx] at e0 e1 HSJ
       obtain ⟨xh, xv⟩ := x
       simp only at e0 e1
       have k0 := frc e0 (HFV3.out.tr HFj.out) (by simp)
       have E1 := AsM e1
       clear hx hxm e0 e1
       cases xh
       ·have HCE : Aside0 (celL ⟨false, xv⟩ = [0]) := ⟨rfl⟩
        go_wp2_with (first | ((with_reducible refine gate_builtin (b := .append) (xs := #[.tmp 72, .tmp 73]) rfl ?_); at_builtin; (refine wp_buf_one (mk := False) (b0 := V3.heap.size) rfl (.tmp 72) (.tmp 73) rfl 0 rfl rfl HBj.out HFj.out.size (by have := HLN.out; omega) ?_; intro v2 W2 hB2 hG2; have HB2 := AsM hB2; have HF2 : Aside0 (Fr V3 W2 []) := ⟨hG2.fr HBj.out HFj.out⟩; clear hB2 hG2)))
        go_roundg (r.length - (j + 1))
        case measure => have := HMj.out; omega
        case rel => exact ⟨j + 1, by go_num, by omega, ⟨Nat.le_refl _⟩, HF2, ⟨by rw [HSJ.out, HCE.out, ← List.append_assoc]; exact HB2.out⟩⟩
       ·have HCE : Aside0 (celL ⟨true, xv⟩ = [1] ++ zigL xv) := ⟨rfl⟩
        go_wp2_with (first
         | ((with_reducible refine gate_builtin (b := .append) (xs := #[.tmp 75, .tmp 76]) rfl ?_); at_builtin; (refine wp_buf_one (mk := False) (b0 := V3.heap.size) rfl (.tmp 75) (.tmp 76) rfl 1 rfl rfl HBj.out HFj.out.size (by have := HLN.out; omega) ?_; intro v2 W2 hB2 hG2; have HB2 := AsM hB2; have HF2 : Aside0 (Fr V3 W2 []) := ⟨hG2.fr HBj.out HFj.out⟩; have t3' := blk_cell (HF2.out.bl HSV3.out) 3; have hlt' := blk_lt (HF2.out.bl HSV3.out); have q0' := frc G9.out (HFV3.out.tr HF2.out) (by simp); have k1' := frc E1.out (HFV3.out.tr HF2.out) (by simp); clear hB2 hG2))
         | (go_at_call 30; ((with_reducible refine (CB.out V3.heap.size _ _ _ xv HB2.out HF2.out.size HX.out (by have := HLN.out; rw [List.length_append]; simp only [List.length_cons, List.length_nil]; omega)).mono ?_); rintro e W5 ⟨v5, rfl, hB5, hF⟩; have HB5 := AsM hB5; have HF5 := AsM (HF2.out.tr hF); clear hB5 hF)))
        go_roundg (r.length - (j + 1))
        case measure => have := HMj.out; omega
        case rel => exact ⟨j + 1, by go_num, by omega, ⟨Nat.le_refl _⟩, HF5, ⟨by rw [HSJ.out, HCE.out, ← List.append_assoc, ← List.append_assoc]; exact HB5.out⟩⟩
      ·obtain rfl : j = r.length := by omega
       have n4 : decide (r.length < r.length) = false := by simp
       go_wp2
       go_roundg (s.l3.length - (i + 1))
       case measure => have := HMi.out; omega
       case rel => exact ⟨i + 1, by go_num, by omega, ⟨Nat.le_refl _⟩, HFj, ⟨by have h := HBj.out; rw [List.take_of_length_le (Nat.le_refl r.length)] at h; rw [HSN.out]; exact h⟩⟩
    ·obtain rfl : i = s.l3.length := by omega
     have n3 : decide (s.l3.length < s.l3.length) = false := by simp
     obtain ⟨V4, hV4⟩ : ∃ V4 : World, V4 = wr := ⟨_, rfl⟩
     subst hV4
     have hb9 : Buf False V4 V3.heap.size u7 s.four := by have h := HBi.out; rw [List.take_of_length_le (Nat.le_refl _)] at h; exact h
     obtain ⟨A9', c9', rfl, l9, r9⟩ := hb9.reads
     have HQ9 : Aside0 (Sl V4 A9' c9' s.four) := ⟨⟨l9, r9⟩⟩
     have HQ8 := AsM (HQ6.out.fr HFi.out)
     have HQ7 := AsM (HQ4'.out.fr HFi.out)
     have HFV4 : Aside0 (Fr w V4 []) := ⟨HFV3.out.tr HFi.out⟩
     have hk4 := HFi.out.bl HKV3.out
     obtain ⟨k0, k1, k2, k3, k4, k5, k6, k7⟩ := cc8 hk4
     have hlt2 := blk_lt hk4
     have hsec := Tryz.underlying50
     have HEQ : Aside0 (s.secs P.mark = [⟨1, P.mark⟩, ⟨2, q4⟩, ⟨3, q6⟩, ⟨4, s.four⟩]) := ⟨by rw [HE4.out, HE6'.out]; rfl⟩
     clear hb9 l9 r9 HBi HFi HKV3 HSV3 HFV3 hk4 H3 HQ4' HQ6
     go_wp2_with (first
      | (go_at_call 31; ((with_reducible refine (CM.out _ HFV4.out).mono ?_); rintro e W5 ⟨Am, cm, q, rfl, rfl, hSl, hF⟩; have HM5 := AsM hSl; have HF5 := AsM hF; clear hSl hF)))
     go_ret
     refine ⟨_, rfl, ?_, HFV4.out.trans (HF5.out.alloc _) (by simp)⟩
     rw [HEQ.out]
     exact secs_C [(⟨1, P.mark⟩, Am, cm), (⟨2, q4⟩, A4, x4), (⟨3, q6⟩, A6, c6), (⟨4, s.four⟩, A9', c9')] (fun x hx => by
      simp only [List.mem_cons, List.not_mem_nil, or_false] at hx
      rcases hx with rfl | rfl | rfl | rfl
      ·exact HM5.out.fr ((Fr.refl _ []).alloc _)
      ·exact HQ7.out.fr (HF5.out.alloc _)
      ·exact HQ8.out.fr (HF5.out.alloc _)
      ·exact HQ9.out.fr (HF5.out.alloc _)) (by simp) (blk_newN rfl)
end Go.Proofs.YtpoehkacfmljcaaGreatDoor.H
