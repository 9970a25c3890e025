/- The reference's hand. Printed by mkRF.py. -/
import Derived.Test.YtpoehkacfmljcaaGreatDoorZV
import Derived.Test.YtpoehkacfmljcaaGreatDoorZRE
set_option maxHeartbeats 4000000
set_option maxRecDepth 100000
namespace Go.Proofs.YtpoehkacfmljcaaGreatDoor.H
open Go.RowKit Go.Proofs.YtpoehkacfmljcaaGreatDoorW.PrintWords Go.Proofs.YtpoehkacfmljcaaGreatDoorW.PrintLast Go.Proofs.YtpoehkacfmljcaaGreatDoorW.PrintMore
open Go.ChangeMaps (setBlock)
attribute [local go_sem] max2_int min2_int max_two min_two max_three min_three max_four min_four
set_option linter.unusedVariables false
set_option linter.unusedSimpArgs false
open Go.Proofs.YtpoehkacfmljcaaGreatDoor.M
def keepB (slT : List KS) (x : KS) : Bool := decide (slotL slT x.f0 = x.f1)
def handRE (hasT : Bool) (xsT xs : List Int) : Int := if hasT = false then 0 else if xsT.length ≠ xs.length then 142 else if xsT ≠ xs then 143 else 0
def handRS (hasT : Bool) (slT sl : List KS) : List KS := if hasT = false then sl else sl.filter (keepB slT)
def HandPost (hasT : Bool) (xsT : List Int) (slT : List KS) (SA : Option Addr) (sc : Nat) (xs : List Int) (SB : Option Addr) (sl : List KS) (w : World) (e : Ending) (w' : World) : Prop :=
 Fr w w' [] ∧ (handRE hasT xsT xs ≠ 0 ∧ (∃ b A n c B m d, e = .returned (.tuple #[.agg #[.bool b, .slice A n c, .slice B m d], .int .i64 (handRE hasT xsT xs)])) ∨ handRE hasT xsT xs = 0 ∧ ∃ B d, e = .returned (.tuple #[.agg #[.bool true, .slice SA xs.length sc, .slice B (handRS hasT slT sl).length d], .int .i64 0]) ∧ Kd.C k236 w' B (handRS hasT slT sl).length (handRS hasT slT sl) ∧ (B = SB ∨ ∀ ad, B = some ad → w.heap.size ≤ ad.block))
theorem cell_alloc_lt (w : World) (o : Obj) {p : Addr} (h : p.block < w.heap.size) : (w.alloc o).cell? p = w.cell? p := by
 simp only [World.cell?, Below.heap_alloc w o _ h]
theorem lt_of_cell {w : World} {p : Addr} {v : Value} (h : w.cell? p = some v) : p.block < w.heap.size := by
 by_cases hb : p.block < w.heap.size
 ·exact hb
 ·simp only [World.cell?] at h
  rw [Array.getElem?_eq_none (by omega)] at h
  simp at h
theorem filter_snoc (p : KS → Bool) (l : List KS) {k : Nat} {x : KS} (hx : l[k]? = some x) : (l.take (k + 1)).filter p = (l.take k).filter p ++ if p x then [x] else [] := by
 rw [List.take_add_one, hx, List.filter_append]
 cases h : p x <;> simp [h]
theorem filter_len (p : KS → Bool) (l : List KS) (k : Nat) : ((l.take k).filter p).length ≤ k := Nat.le_trans (List.length_filter_le _ _) (by rw [List.length_take]; omega)
theorem rhand_calls (hasT : Bool) (TA : Option Addr) (tc : Nat) (xsT : List Int) (TB : Option Addr) (td : Nat) (slT : List KS) (SA : Option Addr) (sc : Nat) (xs : List Int) (SB : Option Addr) (sd : Nat) (sl : List KS) (w : World) (hxl : xs.length ≤ 1000000000) (hsl : sl.length ≤ 100000000)
  (hCT : Kd.C (Kd.int .i64) w TA xsT.length xsT) (hST : Kd.C k236 w TB slT.length slT) (hC : Kd.C (Kd.int .i64) w SA xs.length xs) (hS : Kd.C k236 w SB sl.length sl) :
  Calls Tryz.prog 127 #[.agg #[.bool hasT, .slice TA xsT.length tc, .slice TB slT.length td], .agg #[.bool true, .slice SA xs.length sc, .slice SB sl.length sd]] w (HandPost hasT xsT slT SA sc xs SB sl w) := by
 have hup := Tryz.underlying175
 have huk := Tryz.underlying236
 have HCT := AsM hCT
 have HST := AsM hST
 have HC := AsM hC
 have HS := AsM hS
 clear hCT hST hC hS
 cases hasT
 case false =>
  go_enter Tryz.func127, Tryz.ntmps127
  go_wp2
  refine bodyPost_ret (results_list (rs := [.cell 4 175, .tmp 5]) rfl (by simp) (.cell (w.heap.size + 1 + 1) 175 #[.bool true, .slice SA xs.length sc, .slice SB sl.length sd] (0, 0) _ rfl ?hb hup rfl rfl (.tmp .nil))) rfl ?_
  case hb => exact blk_newN (by simp)
  exact ⟨FQ, .inr ⟨rfl, SB, sd, rfl, Kd.C_below HS.out (Fr.below FQ), .inl rfl⟩⟩
 case true =>
 by_cases hl : xsT.length = xs.length
 case neg =>
  have n1 : ((xsT.length : Int) != (xs.length : Int)) = true := by rw [bne_iff_ne]; omega
  have HL := AsM hl
  clear hl
  go_enter Tryz.func127, Tryz.ntmps127
  go_wp2
  refine bodyPost_ret (results_list (rs := [.cell 4 175, .tmp 5]) rfl (by simp) (.cell (w.heap.size + 1 + 1) 175 #[.bool true, .slice TA xsT.length tc, .slice TB slT.length td] (0, 0) _ rfl ?hb hup rfl rfl (.tmp .nil))) rfl ?_
  case hb => exact blk_newN (by simp)
  have e : handRE true xsT xs = 142 := by unfold handRE; rw [if_neg (by decide), if_pos HL.out]
  exact ⟨FQ, .inl ⟨by rw [e]; decide, _, _, _, _, _, _, _, by rw [e]; rfl⟩⟩
 case pos =>
 have n1 : ((xsT.length : Int) != (xs.length : Int)) = false := by rw [bne_eq_false_iff_eq]; omega
 have HL := AsM hl
 clear hl
 go_enter Tryz.func127, Tryz.ntmps127
 go_upto_region 5 with fail
 refine name_ (fun V => Aside0 (Fr w V []) ∧ Aside0 (V.heap[w.heap.size]? = some (.cells #[.bool true, .slice TA xsT.length tc, .slice TB slT.length td] 175 (0, 0))) ∧ Aside0 (V.heap[w.heap.size + 1]? = some (.cells #[.bool true, .slice SA xs.length sc, .slice SB sl.length sd] 175 (0, 0))) ∧ Aside0 (V.heap[w.heap.size + 1 + 1]? = some (.cells #[.bool false, .slice none 0 0, .slice none 0 0] 175 (0, 0)))) ⟨⟨FQ⟩, ⟨blk_alloc (blk_alloc (blk_newN rfl) _) _⟩, ⟨blk_alloc (blk_newN (by simp)) _⟩, ⟨blk_newN (by simp)⟩⟩ ?_
 rintro V ⟨HF1, HX1, HY1, HR1⟩
 obtain ⟨x0, x1, x2⟩ := cc3 HX1.out
 have y1 := blk_cell HY1.out 1
 have y2 := blk_cell HY1.out 2
 obtain ⟨r0, r1, r2⟩ := cc3 HR1.out
 have z0 := blk_frozen HR1.out 0
 have z1 := blk_frozen HR1.out 1
 have z2 := blk_frozen HR1.out 2
 have hrl := blk_lt HR1.out
 have HCT1 := AsM (Kd.C_below HCT.out HF1.out.below)
 have HC1 := AsM (Kd.C_below HC.out HF1.out.below)
 go_wp2
 go_loopg [6] xs.length (fun kq s6 wr => ∃ k : Nat, s6 = .int .i64 k ∧ k ≤ xs.length ∧ Aside0 (xs.length - k ≤ kq) ∧ Drawn0 V wr ∧ Aside0 (xsT.take k = xs.take k))
 case atStart => exact ⟨0, rfl, Nat.zero_le _, ⟨Nat.le_refl _⟩, DQ, ⟨rfl⟩⟩
 case round =>
  obtain ⟨k, rfl, hk, HM, ⟨nk, rfl⟩, HA⟩ := hrel
  by_cases hkl : k < xs.length
  ·have n3 : decide (k < xs.length) = true := by simpa using hkl
   have hkt : k < xsT.length := by have := HL.out; omega
   obtain ⟨adt, rfl, h2⟩ := iat_at HCT1.out k hkt
   obtain ⟨adx, rfl, h3⟩ := iat_at HC1.out k hkl
   obtain ⟨tk, htk⟩ : ∃ x, xsT.getD k 0 = x := ⟨_, rfl⟩
   obtain ⟨xk, hxk⟩ : ∃ x, xs.getD k 0 = x := ⟨_, rfl⟩
   have htm : xsT[k]? = some tk := by rw [List.getD_eq_getElem?_getD, List.getElem?_eq_getElem hkt] at htk; rw [List.getElem?_eq_getElem hkt]; simpa using htk
   have hxm : xs[k]? = some xk := by rw [List.getD_eq_getElem?_getD, List.getElem?_eq_getElem hkl] at hxk; rw [List.getElem?_eq_getElem hkl]; simpa using hxk
   rw [htk] at h2
   rw [hxk] at h3
   have HTX := AsM (And.intro htm hxm)
   clear htk hxk htm hxm
   by_cases hxt : tk = xk
   ·have n5 : (tk != xk) = false := by simpa using hxt
    have HXT := AsM hxt
    clear hxt
    go_upto_region 8 with fail
    go_quiet (fail)
    go_wp2
    go_roundg (xs.length - (k + 1))
    case measure => have := HM.out; omega
    case rel => exact ⟨k + 1, by go_num, by omega, ⟨Nat.le_refl _⟩, DQ, ⟨by rw [List.take_add_one, List.take_add_one, HA.out, HTX.out.1, HTX.out.2, HXT.out]⟩⟩
   ·have n5 : (tk != xk) = true := by simpa using hxt
    have HXT := AsM hxt
    clear hxt
    go_upto_region 8 with fail
    go_quiet (fail)
    go_wp2
    refine bodyPost_ret (results_list (rs := [.cell 4 175, .tmp 5]) rfl (by simp) (.cell (w.heap.size + 1 + 1) 175 #[.bool true, .slice (some adt) xsT.length tc, .slice TB slT.length td] (0, 0) _ rfl ?hb hup rfl rfl (.tmp .nil))) rfl ?_
    case hb => exact blk_to (blk_set (blk_set (blk_set (by (with_reducible (repeat (first | apply blk_drew | apply blk_alloc | apply blk_set))); first | exact HR1.out | exact blk_drewN HR1.out _) 0 _) 1 _) 2 _) rfl
    have e : handRE true xsT xs = 143 := by
     unfold handRE
     rw [if_neg (by decide), if_neg (fun h => h HL.out), if_pos]
     rintro rfl
     exact HXT.out (Option.some.inj (HTX.out.1.symm.trans HTX.out.2))
    exact ⟨by (with_reducible (repeat (first | exact Fr.refl _ _ | refine Fr.drew ?_ | refine Fr.drewN ?_ _ | refine Fr.alloc ?_ _ | refine Fr.setCell ?_ _ _ ?_))) <;> first | exact HF1.out | (refine .inr ?_; simp; omega) | (simp; omega), .inl ⟨by rw [e]; decide, _, _, _, _, _, _, _, by rw [e]; rfl⟩⟩
  ·obtain rfl : k = xs.length := by omega
   have n3 : decide (xs.length < xs.length) = false := by simp
   have heq : xsT = xs := by
    have := HA.out
    rw [List.take_length, List.take_of_length_le (by have := HL.out; omega)] at this
    exact this
   have he : handRE true xsT xs = 0 := by unfold handRE; rw [if_neg (by decide), if_neg (fun h => h HL.out), if_neg (fun h => h heq)]
   have HE := AsM he
   clear heq he HA
   go_upto_region 10 with fail
   refine name_ (fun W => Aside0 (Fr w W []) ∧ Aside0 (W.heap[w.heap.size]? = some (.cells #[.bool true, .slice TA xsT.length tc, .slice TB slT.length td] 175 (0, 0))) ∧ Aside0 (W.heap[w.heap.size + 1]? = some (.cells #[.bool true, .slice SA xs.length sc, .slice SB sl.length sd] 175 (0, 0))) ∧ Aside0 (W.heap[w.heap.size + 1 + 1]? = some (.cells #[.bool false, .slice none 0 0, .slice none 0 0] 175 (0, 0)))) ⟨⟨FX HF1.out⟩, ⟨blk_drewN HX1.out _⟩, ⟨blk_drewN HY1.out _⟩, ⟨blk_drewN HR1.out _⟩⟩ ?_
   clear x0 x1 x2 y1 y2 r0 r1 r2 z0 z1 z2 hrl HF1 HX1 HY1 HR1 HCT1 HC1 n3 hk HM
   rintro V1 ⟨HF1, HX1, HY1, HR1⟩
   have y1 := blk_cell HY1.out 1
   have hrl := blk_lt HR1.out
   go_upto_region 11 with fail
   refine name_ (fun W => Aside0 (Fr w W []) ∧ Aside0 (W.heap[w.heap.size]? = some (.cells #[.bool true, .slice TA xsT.length tc, .slice TB slT.length td] 175 (0, 0))) ∧ Aside0 (W.heap[w.heap.size + 1]? = some (.cells #[.bool true, .slice SA xs.length sc, .slice SB sl.length sd] 175 (0, 0))) ∧ Aside0 (W.heap[w.heap.size + 1 + 1]? = some (.cells #[.bool false, .slice none 0 0, .slice none 0 0] 175 (0, 0))) ∧ Aside0 (W.heap[V1.heap.size]? = some (.cells #[.bool true, .slice SA xs.length sc, .slice none 0 0] 175 (0, 0)))) ⟨⟨FX HF1.out⟩, ⟨by (with_reducible (repeat (first | apply blk_drew | apply blk_alloc | apply blk_set))); exact HX1.out⟩, ⟨by (with_reducible (repeat (first | apply blk_drew | apply blk_alloc | apply blk_set))); exact HY1.out⟩, ⟨by (with_reducible (repeat (first | apply blk_drew | apply blk_alloc | apply blk_set))); exact HR1.out⟩, ⟨blk_newN (by simp)⟩⟩ ?_
   obtain ⟨D, hD⟩ : ∃ D, V1.heap.size = D := ⟨_, rfl⟩
   rw [hD] at hrl ⊢
   clear y1 hD HF1 HX1 HY1 HR1
   rintro V2 ⟨HF2, HX2, HY2, HR2, HD2⟩
   have y2 := blk_cell HY2.out 2
   go_wp2
   obtain ⟨wo, hwo⟩ : ∃ wo : World, wo = V2 := ⟨_, rfl⟩
   go_loopg [8] sl.length (fun kq s8 wr => ∃ (k : Nat) (Av : Option Addr) (m cv : Nat) (vals : List Value), s8 = .int .i64 k ∧ k ≤ sl.length ∧ Aside0 (sl.length - k ≤ kq) ∧ Aside0 (Fr w wr []) ∧ Aside0 (wr.heap[w.heap.size]? = some (.cells #[.bool true, .slice TA xsT.length tc, .slice TB slT.length td] 175 (0, 0))) ∧ Aside0 (wr.heap[w.heap.size + 1]? = some (.cells #[.bool true, .slice SA xs.length sc, .slice SB sl.length sd] 175 (0, 0))) ∧ Aside0 (wr.heap[w.heap.size + 1 + 1]? = some (.cells #[.bool false, .slice none 0 0, .slice none 0 0] 175 (0, 0))) ∧ Aside0 (wr.heap[D]? = some (.cells #[.bool true, .slice SA xs.length sc, .slice Av m cv] 175 (0, 0))) ∧ Aside0 (wr.ownsRow 0 236 2 (.slice Av m cv) ((sl.take k).filter (keepB slT)).length vals) ∧ Aside0 (Reps KR 2 ((sl.take k).filter (keepB slT)) vals) ∧ Aside0 (∀ i, (Value.slice Av m cv).ownBlock = some i → D < i))
   case atStart => exact ⟨0, none, 0, 0, [], rfl, Nat.zero_le _, ⟨Nat.le_refl _⟩, HF2, HX2, HY2, HR2, HD2, ⟨own_nil _ _ _ _⟩, ⟨Reps.none _ _⟩, ⟨fun i h => by simp [Value.ownBlock] at h⟩⟩
   case round =>
   clear y2 hwo
   obtain ⟨k, Av, m, cv, vals, rfl, hk, HM, HF, HX, HY, HR, HD, HO, HRP, HOB⟩ := hrel
   have x2 := blk_cell HX.out 2
   have y2 := blk_cell HY.out 2
   have hdl := blk_lt HD.out
   by_cases hkl : k < sl.length
   ·have n3 : decide (k < sl.length) = true := by simpa using hkl
    obtain ⟨ad, rfl, h0, h1⟩ := kept_at (Kd.C_below HS.out HF.out.below) k hkl
    obtain ⟨x, hx⟩ : ∃ x, sl.getD k z236 = x := ⟨_, rfl⟩
    rw [hx] at h0 h1
    have hxm : sl[k]? = some x := by rw [List.getD_eq_getElem?_getD, List.getElem?_eq_getElem hkl] at hx; rw [List.getElem?_eq_getElem hkl]; simpa using hx
    have hadb : (ad.add (k * 2)).block < wr.heap.size := lt_of_cell h0
    have HSN := AsM (filter_snoc (keepB slT) sl hxm)
    have HSL := AsM (filter_len (keepB slT) sl k)
    have HAD := AsM (fun (L : List Nat) (W : World) (hf : Fr w W []) => kept_at (Kd.C_below HS.out hf.below) k hkl)
    have HXE := AsM hx
    clear hx hxm
    obtain ⟨sv, hsv⟩ : ∃ y, slotL slT x.f0 = y := ⟨_, rfl⟩
    have HSC : Aside0 (∀ n, Calls Tryz.prog 151 #[.slice TB slT.length td, .int .i64 x.f0] (wr.drewN n) fun e w' => e = .returned (.int .i64 sv) ∧ ∃ m, w' = wr.drewN m) := ⟨fun n => Calls.quiet_of (hsv ▸ (slot_calls TB td slT x.f0 _ (Kd.C_below HST.out (Fr.drewN HF.out n).below)).mono (fun _ _ h => ⟨h.1, h.2.out⟩))⟩
    have HKB : Aside0 (keepB slT x = decide (sv = x.f1)) := ⟨by unfold keepB; rw [hsv]⟩
    clear hsv
    by_cases hse : sv = x.f1
    case neg =>
     have n5 : (sv == x.f1) = false := by simpa using hse
     have HSE := AsM hse
     clear hse
     go_upto_region 14 with fail
     go_quiet ((go_at_call 151; exact HSC.out _))
     go_wp2
     go_roundg (sl.length - (k + 1))
     case measure => have := HM.out; omega
     case rel =>
      have hs := HSN.out
      rw [HKB.out, if_neg (by simpa using HSE.out), List.append_nil] at hs
      exact ⟨k + 1, Av, m, cv, vals, by go_num, by omega, ⟨Nat.le_refl _⟩, ⟨FX HF.out⟩, ⟨by (with_reducible (repeat (first | apply blk_drew | apply blk_alloc | apply blk_set))); exact blk_drewN HX.out _⟩, ⟨by (with_reducible (repeat (first | apply blk_drew | apply blk_alloc | apply blk_set))); exact blk_drewN HY.out _⟩, ⟨by (with_reducible (repeat (first | apply blk_drew | apply blk_alloc | apply blk_set))); exact blk_drewN HR.out _⟩, ⟨by (with_reducible (repeat (first | apply blk_drew | apply blk_alloc | apply blk_set))); exact blk_drewN HD.out _⟩, ⟨by rw [hs]; exact own_fr HO.out (L := []) FQ (fun _ _ => List.not_mem_nil)⟩, ⟨by rw [hs]; exact HRP.out⟩, HOB⟩
    case pos =>
    have n5 : (sv == x.f1) = true := by simpa using hse
    have HSE := AsM hse
    clear hse
    go_upto_region 14 with fail
    go_quiet ((go_at_call 151; exact HSC.out _))
    go_upto_region 15 with fail
    refine name_ (fun W => Aside0 (Fr w W []) ∧ Aside0 (W.heap[w.heap.size]? = some (.cells #[.bool true, .slice TA xsT.length tc, .slice TB slT.length td] 175 (0, 0))) ∧ Aside0 (W.heap[w.heap.size + 1]? = some (.cells #[.bool true, .slice SA xs.length sc, .slice (some ad) sl.length sd] 175 (0, 0))) ∧ Aside0 (W.heap[w.heap.size + 1 + 1]? = some (.cells #[.bool false, .slice none 0 0, .slice none 0 0] 175 (0, 0))) ∧ Aside0 (W.heap[D]? = some (.cells #[.bool true, .slice SA xs.length sc, .slice Av m cv] 175 (0, 0))) ∧ Aside0 (W.ownsRow 0 236 2 (.slice Av m cv) ((sl.take k).filter (keepB slT)).length vals)) ⟨⟨FX HF.out⟩, ⟨by (with_reducible (repeat (first | apply blk_drew | apply blk_alloc | apply blk_set))); exact blk_drewN HX.out _⟩, ⟨by (with_reducible (repeat (first | apply blk_drew | apply blk_alloc | apply blk_set))); exact blk_drewN HY.out _⟩, ⟨by (with_reducible (repeat (first | apply blk_drew | apply blk_alloc | apply blk_set))); exact blk_drewN HR.out _⟩, ⟨by (with_reducible (repeat (first | apply blk_drew | apply blk_alloc | apply blk_set))); exact blk_drewN HD.out _⟩, ⟨own_fr HO.out (L := []) FQ (fun _ _ => List.not_mem_nil)⟩⟩ ?_
    clear x2 y2 hdl h0 h1 hadb HF HX HY HR HD HO HSC
    rintro V7 ⟨HF7, HX7, HYV, HR7, HDV, HO7⟩
    obtain ⟨ad', e', hv0, hv1⟩ := HAD.out [] V7 HF7.out
    injection e' with e'
    subst e'
    rw [HXE.out] at hv0 hv1
    have hadb : (ad.add (k * 2)).block < V7.heap.size := lt_of_cell hv0
    have hdl := blk_lt HDV.out
    have HND := AsM (show D ∉ (Value.slice Av m cv).ownBlock.toList from fun h => by have := HOB.out _ (by simpa using h); omega)
    have hwl : ((sl.take k).filter (keepB slT)).length + 1 ≤ 1000000000 := by have := HSL.out; omega
    obtain ⟨nn, hnn⟩ : ∃ nn, ((sl.take k).filter (keepB slT)).length = nn := ⟨_, rfl⟩
    rw [hnn] at HO7 hwl
    have HNN := AsM hnn
    clear hnn
    refine start_ (n := 11) (S := fun w' => w'.cell? ⟨D, 2, none⟩ = some (.slice Av m cv) ∧ w'.cell? ⟨w.heap.size + 1, 2, none⟩ = some (.slice (some ad) sl.length sd) ∧ w'.cell? (ad.add (k * 2)) = some (.int .i64 x.f0) ∧ w'.cell? ⟨(ad.add (k * 2)).block, (ad.add (k * 2)).off + 1, none⟩ = some (.int .i64 x.f1)) (ds := [8, 10]) #[false, false, false, false, false, false, false, false, false, false, false] (by kernel_rfl) rfl rfl ⟨blk_cell HDV.out 2, blk_cell HYV.out 2, hv0, hv1⟩ (fun hHeld => ?_)
    refine pure_ (i := 0) (N := some 66) (v := ?_) (a' := ?_) #[true, false, false, false, false, false, false, false, false, false, false] rfl rfl (by kernel_rfl) (fun _ _ _ h => h) (Or.inl ⟨by rfl, ?_⟩) ?_ ?_
    rotate_left
    ·intro w'
     go_simp
     with_reducible rfl
    rotate_left
    ·simp only [Act.put, lS, lZ, lU, i64_w, i32_w]
     rfl
    refine take_ (i := 1) (N := some 67) (v := ?_) (a' := ?_) #[true, true, false, false, false, false, false, false, false, false, false] rfl rfl (by kernel_rfl) (fun _ _ _ h => h) (Or.inl ⟨by rfl, ?_⟩) hHeld ?_ ?_
    rotate_left
    ·rintro w' ⟨s0, s1, s2, s3⟩
     go_simp
     with_reducible rfl
    rotate_left
    ·simp only [Act.put, lS, lZ, lU, i64_w, i32_w]
     rfl
    refine pure_ (i := 2) (N := some 68) (v := ?_) (a' := ?_) #[true, true, true, false, false, false, false, false, false, false, false] rfl rfl (by kernel_rfl) (fun _ _ _ h => h) (Or.inl ⟨by rfl, ?_⟩) ?_ ?_
    rotate_left
    ·intro w'
     go_simp
     with_reducible rfl
    rotate_left
    ·simp only [Act.put, lS, lZ, lU, i64_w, i32_w]
     rfl
    refine take_ (i := 3) (N := some 69) (v := ?_) (a' := ?_) #[true, true, true, true, false, false, false, false, false, false, false] rfl rfl (by kernel_rfl) (fun _ _ _ h => h) (Or.inl ⟨by rfl, ?_⟩) hHeld ?_ ?_
    rotate_left
    ·rintro w' ⟨s0, s1, s2, s3⟩
     go_simp
     with_reducible rfl
    rotate_left
    ·simp only [Act.put, lS, lZ, lU, i64_w, i32_w]
     rfl
    refine pure_ (i := 4) (N := some 70) (v := ?_) (a' := ?_) #[true, true, true, true, true, false, false, false, false, false, false] rfl rfl (by kernel_rfl) (fun _ _ _ h => h) (Or.inl ⟨by rfl, ?_⟩) ?_ ?_
    rotate_left
    ·intro w'
     go_simp
     with_reducible rfl
    rotate_left
    ·simp only [Act.put, lS, lZ, lU, i64_w, i32_w]
     rfl
    refine pure_ (i := 5) (N := some 71) (v := ?_) (a' := ?_) #[true, true, true, true, true, true, false, false, false, false, false] rfl rfl (by kernel_rfl) (fun _ _ _ h => h) (Or.inl ⟨by rfl, ?_⟩) ?_ ?_
    rotate_left
    ·intro w'
     go_simp
     with_reducible rfl
    rotate_left
    ·simp only [Act.put, lS, lZ, lU, i64_w, i32_w]
     rfl
    refine take_ (i := 6) (N := some 72) (v := ?_) (a' := ?_) #[true, true, true, true, true, true, true, false, false, false, false] rfl rfl (by kernel_rfl) (fun _ _ _ h => h) (Or.inl ⟨by rfl, ?_⟩) hHeld ?_ ?_
    rotate_left
    ·rintro w' ⟨s0, s1, s2, s3⟩
     go_simp
     with_reducible rfl
    rotate_left
    ·simp only [Act.put, lS, lZ, lU, i64_w, i32_w]
     rfl
    refine one_ (i := 7) (N := some 73) #[true, true, true, true, true, true, true, true, false, false, false] rfl rfl (by kernel_rfl) (by decide) (fun K hK => ?_)
    refine value_ (w1 := ?_) (v := ?_) (by rfl) rfl ?_ ?_
    rotate_left 2
    ·go_simp
     constructor
     ·rfl
     ·rfl
    refine hK.out _ _ ⟨blk_cell (blk_alloc HDV.out _) 2, blk_cell (blk_alloc HYV.out _) 2, by rw [← hv0]; exact cell_alloc_lt _ _ hadb, by rw [← hv1]; exact cell_alloc_lt _ _ hadb⟩ (fun hHeld => ?_)
    clear hK K
    refine norm_ (a' := ?_) ?_ ?_
    rotate_left
    ·show Act.put _ (some 73) _ = _
     simp only [Act.put, lS, lZ, lU, i64_w, i32_w]
     rfl
    refine last_ (i := 8) (N := some 74) #[true, true, true, true, true, true, true, true, true, false, false] rfl rfl (by kernel_rfl) (by decide) (fun K hK => ?_)
    refine stepN 173 236 2 16 (.agg #[.int .i64 0, .int .i64 0]) (.tmp 67) (.tmp 73) rfl rfl Tryz.underlying173 info236 rfl (by decide) (.slice Av m cv) nn vals V7.heap.size [.int .i64 x.f0, .int .i64 x.f1] rfl rfl (own_fr (w := V7) HO7.out (L := []) FQ (fun _ _ => List.not_mem_nil)) (blk_newN rfl) rfl (by simp [Value.oneCell']) hwl (by omega) ?_
    intro v9 W9 hO9 hg9 hat9
    obtain ⟨P9, m9, c9, hv9⟩ := own_isSlice hO9
    subst hv9
    have HO9 := AsM hO9
    have HAT9 := AsM hat9
    have HG9 : Aside0 (Fr V7 W9 (Value.slice Av m cv).ownBlock.toList) := ⟨Fr.grown (a := V7) (L := (Value.slice Av m cv).ownBlock.toList) FQ hg9 (fun k hk => .inl (by simp [hk]))⟩
    have HFD9 := AsM (HG9.out.blk HDV.out HND.out)
    have zz9 := blk_frozen HFD9.out 2
    have q9 := blk_cell HFD9.out 2
    clear hO9 hg9 hat9
    refine hK.out _ _ ?_
    clear hK K
    refine norm_ (a' := ?_) ?_ ?_
    rotate_left
    ·show Act.put _ (some 74) _ = _
     simp only [Act.put, lS, lZ, lU, i64_w, i32_w]
     rfl
    refine pure_ (i := 9) (N := some 75) (v := ?_) (a' := ?_) #[true, true, true, true, true, true, true, true, true, true, false] rfl rfl (by kernel_rfl) (fun _ _ _ h => h) (Or.inl ⟨by rfl, ?_⟩) ?_ ?_
    rotate_left
    ·intro w'
     go_simp
     with_reducible rfl
    rotate_left
    ·simp only [Act.put, lS, lZ, lU, i64_w, i32_w]
     rfl
    refine last_ (i := 10) (N := none) #[true, true, true, true, true, true, true, true, true, true, true] rfl rfl (by kernel_rfl) (by decide) (fun K hK => ?_)
    refine skip_ (w1 := ?_) (by rfl) rfl ?_ ?_
    rotate_left
    ·go_simp
     rfl
    refine hK.out _ _ ?_
    clear hK K
    refine done_ (by kernel_rfl) ?_
    go_wp2
    go_roundg (sl.length - (k + 1))
    case measure => have := HM.out; omega
    case rel =>
     have hs := HSN.out
     rw [HKB.out, if_pos (by simpa using HSE.out)] at hs
     have hno : ∀ i, (Value.slice P9 m9 c9).ownBlock = some i → D < i := fun i hi => by
      rcases HAT9.out with h9 | h9
      ·exact HOB.out i (h9 ▸ hi)
      ·rw [h9] at hi
       simp at hi
       omega
     have hnb : ∀ g, g ≤ D → g ∉ (Value.slice Av m cv).ownBlock.toList := fun g hg h => by have := HOB.out _ (by simpa using h); omega
     have hf9 : Fr w W9 [] := HF7.out.trans HG9.out (fun i hi => .inr (by have := HOB.out i (by simpa using hi); omega))
     exact ⟨k + 1, P9, m9, c9, _, by go_num, by omega, ⟨Nat.le_refl _⟩, ⟨hf9.setCell _ _ (.inr (by simp; omega))⟩, ⟨at_far (HG9.out.blk HX7.out (hnb _ (by omega))) (by simp; omega) _⟩, ⟨at_far (HG9.out.blk HYV.out (hnb _ (by omega))) (by simp; omega) _⟩, ⟨at_far (HG9.out.blk HR7.out (hnb _ (by omega))) (by simp; omega) _⟩, ⟨blk_to (blk_set HFD9.out 2 _) rfl⟩, ⟨by rw [hs, List.length_append, HNN.out]; exact own_fr HO9.out (Fr.set W9 ⟨D, 2, none⟩ _) (fun i hi => by have := hno i hi; simp; omega)⟩, ⟨by rw [hs]; exact HRP.out.snoc rfl rfl⟩, ⟨hno⟩⟩
   ·obtain rfl : k = sl.length := by omega
    have n3 : decide (sl.length < sl.length) = false := by simp
    obtain ⟨d0, d1, d2⟩ := cc3 HD.out
    obtain ⟨r0, r1, r2⟩ := cc3 HR.out
    have z0 := blk_frozen HR.out 0
    have z1 := blk_frozen HR.out 1
    have z2 := blk_frozen HR.out 2
    have ho := HO.out
    have hrp := HRP.out
    rw [List.take_length] at ho hrp
    have HO2 := AsM ho
    have HRP2 := AsM hrp
    clear ho hrp
    go_wp2
    refine bodyPost_ret (results_list (rs := [.cell 4 175, .tmp 5]) rfl (by simp) (.cell (w.heap.size + 1 + 1) 175 #[.bool true, .slice SA xs.length sc, .slice Av m cv] (0, 0) _ rfl ?hb hup rfl rfl (.tmp .nil))) rfl ?_
    case hb => exact blk_to (blk_set (blk_set (blk_set HR.out 0 _) 1 _) 2 _) rfl
    have hfr : ∀ L, w.heap.size + 1 + 1 ∈ L → Fr wr (((wr.setCell ⟨w.heap.size + 1 + 1, 0, none⟩ (.bool true)).setCell ⟨w.heap.size + 1 + 1, 1, none⟩ (.slice SA xs.length sc)).setCell ⟨w.heap.size + 1 + 1, 2, none⟩ (.slice Av m cv)) L := fun L hL => (((Fr.refl wr L).setCell _ _ (.inl hL)).setCell _ _ (.inl hL)).setCell _ _ (.inl hL)
    have hfW := HF.out.trans (hfr [w.heap.size + 1 + 1] (by simp)) (by intro i hi; simp at hi; omega)
    obtain ⟨B9, d9, hv9, _, hC9⟩ := C_of_own (d := k236) (own_fr HO2.out (hfr [w.heap.size + 1 + 1] (by simp)) (fun i hi => by have := HOB.out i hi; simp; omega)) (reps_kept HRP2.out _) rfl
    injection hv9 with h1 h2 h3
    subst h1 h2 h3
    refine ⟨hfW, .inr ⟨HE.out, Av, cv, rfl, hC9, .inr ?_⟩⟩
    rintro ad rfl
    have := HOB.out _ rfl
    omega
structure RV where
 has : Bool
 A : Option Addr
 c : Nat
 xs : List Int
 B : Option Addr
 d : Nat
 sl : List KS
abbrev RS : Type := Bool × List Int × List KS
def RV.rs (v : RV) : RS := (v.has, v.xs, v.sl)
def RV.cells (v : RV) : List Value := [.bool v.has, .slice v.A v.xs.length v.c, .slice v.B v.sl.length v.d]
structure RV.Ok (v : RV) (w : World) (S : Nat) : Prop where
 stk : (Kd.int .i64).C w v.A v.xs.length v.xs
 cap : v.xs.length ≤ v.c
 slt : Kd.C k236 w v.B v.sl.length v.sl
 a : ∀ ad, v.A = some ad → ad.block ≠ S
 b : ∀ ad, v.B = some ad → ad.block ≠ S
structure Arr (w : World) (S : Nat) (l : List RV) : Prop where
 blk : w.heap[S]? = some (.cells (l.flatMap RV.cells).toArray 175 (0, 0))
 ok : ∀ v ∈ l, v.Ok w S
theorem flat_get : ∀ (l : List RV) (j : Nat) (v : RV), l[j]? = some v → ∀ i, i < 3 → (l.flatMap RV.cells)[j * 3 + i]? = v.cells[i]?
 | [], _, _, h => by simp at h
 | x :: l, 0, v, h => fun i hi => by
  obtain rfl : x = v := by simpa using h
  rw [List.flatMap_cons, Nat.zero_mul, Nat.zero_add, List.getElem?_append_left (by simpa [RV.cells] using hi)]
 | x :: l, j + 1, v, h => fun i hi => by
  rw [List.flatMap_cons, List.getElem?_append_right (by simp [RV.cells]; omega)]
  have := flat_get l j v (by simpa using h) i hi
  rw [← this]
  congr 1
  simp [RV.cells]
  omega
theorem flat_set : ∀ (l : List RV) (j : Nat) (v : RV), j < l.length → (((l.flatMap RV.cells).set (j * 3) (.bool v.has)).set (j * 3 + 1) (.slice v.A v.xs.length v.c)).set (j * 3 + 2) (.slice v.B v.sl.length v.d) = (l.set j v).flatMap RV.cells
 | [], _, _, h => by simp at h
 | x :: l, 0, v, h => by simp [RV.cells]
 | x :: l, j + 1, v, h => by
  have := flat_set l j v (by simpa using h)
  rw [List.flatMap_cons, List.set_cons_succ, List.flatMap_cons, ← this]
  have e : (j + 1) * 3 = j * 3 + 3 := by omega
  rw [e]
  simp [RV.cells]
theorem flat_len : ∀ l : List RV, (l.flatMap RV.cells).length = l.length * 3
 | [] => rfl
 | x :: l => by rw [List.flatMap_cons, List.length_append, flat_len l, List.length_cons]; simp [RV.cells]; omega
theorem Arr.get {w : World} {S : Nat} {l : List RV} (h : Arr w S l) {j : Nat} {v : RV} (hj : l[j]? = some v) : w.cell? ⟨S, j * 3, none⟩ = some (.bool v.has) ∧ w.cell? ⟨S, j * 3 + 1, none⟩ = some (.slice v.A v.xs.length v.c) ∧ w.cell? ⟨S, j * 3 + 2, none⟩ = some (.slice v.B v.sl.length v.d) := by
 have hg := fun i hi => flat_get l j v hj i hi
 refine ⟨?_, ?_, ?_⟩
 ·rw [blk_cell h.blk]; simpa [RV.cells] using hg 0 (by omega)
 ·rw [blk_cell h.blk]; simpa [RV.cells] using hg 1 (by omega)
 ·rw [blk_cell h.blk]; simpa [RV.cells] using hg 2 (by omega)
theorem K_int {w w' : World} (x : Int) (c : List Value) (h : (Kd.int .i64).K w x c) : (Kd.int .i64).K w' x c := h
theorem RV.Ok.fr {v : RV} {w w' : World} {S : Nat} (h : v.Ok w S) (hf : Fr w w' []) : v.Ok w' S := ⟨Kd.C_below h.stk hf.below, h.cap, Kd.C_below h.slt hf.below, h.a, h.b⟩
theorem RV.Ok.frS {v : RV} {w w' : World} {S : Nat} (h : v.Ok w S) (hf : Fr w w' [S]) : v.Ok w' S := ⟨C_fr h.stk hf (fun ad e => by simpa using h.a ad e) K_int, h.cap, C_fr h.slt hf (fun ad e => by simpa using h.b ad e) K_kept, h.a, h.b⟩
theorem Arr.fr {w w' : World} {S : Nat} {l : List RV} (h : Arr w S l) (hf : Fr w w' []) : Arr w' S l := ⟨hf.blk h.blk (by simp), fun v hv => (h.ok v hv).fr hf⟩
theorem Arr.set {w : World} {S : Nat} {l : List RV} (h : Arr w S l) (j : Nat) (v : RV) (hj : j < l.length) (hv : v.Ok w S) : Arr (((w.setCell ⟨S, j * 3, none⟩ (.bool v.has)).setCell ⟨S, j * 3 + 1, none⟩ (.slice v.A v.xs.length v.c)).setCell ⟨S, j * 3 + 2, none⟩ (.slice v.B v.sl.length v.d)) S (l.set j v) := by
 have hf : Fr w (((w.setCell ⟨S, j * 3, none⟩ (.bool v.has)).setCell ⟨S, j * 3 + 1, none⟩ (.slice v.A v.xs.length v.c)).setCell ⟨S, j * 3 + 2, none⟩ (.slice v.B v.sl.length v.d)) [S] := (((Fr.refl w [S]).setCell _ _ (.inl (by simp))).setCell _ _ (.inl (by simp))).setCell _ _ (.inl (by simp))
 refine ⟨?_, fun u hu => ?_⟩
 ·have := blk_set (blk_set (blk_set h.blk (j * 3) (.bool v.has)) (j * 3 + 1) (.slice v.A v.xs.length v.c)) (j * 3 + 2) (.slice v.B v.sl.length v.d)
  rw [this, List.setIfInBounds_toArray, List.setIfInBounds_toArray, List.setIfInBounds_toArray, flat_set l j v hj]
 ·rcases List.mem_or_eq_of_mem_set hu with h1 | rfl
  ·exact (h.ok u h1).frS hf
  ·exact hv.frS hf
def rv0 : RV := ⟨false, none, 0, [], none, 0, []⟩
theorem rv0_ok (w : World) (S : Nat) : rv0.Ok w S := ⟨⟨rfl, by decide, fun h => absurd h (by decide)⟩, Nat.le_refl _, ⟨rfl, by decide, fun h => absurd h (by decide)⟩, (fun ad h => by cases h), (fun ad h => by cases h)⟩
theorem rv0_cells : rv0.cells = [.bool false, .slice none 0 0, .slice none 0 0] := rfl
theorem made_states (n : Nat) : madeCells #[.bool false, .slice none 0 0, .slice none 0 0] (n * 3) = ((List.replicate n rv0).flatMap RV.cells).toArray := by
 apply Array.ext
 ·rw [size_madeCells, List.size_toArray, flat_len, List.length_replicate]
 ·intro i h1 h2
  have hi : i < n * 3 := by simpa [madeCells] using h1
  have hj : (List.replicate n rv0)[i / 3]? = some rv0 := by rw [List.getElem?_replicate]; simp; omega
  have := flat_get _ _ _ hj (i % 3) (by omega)
  rw [show i / 3 * 3 + i % 3 = i by omega] at this
  have h3 : ((List.replicate n rv0).flatMap RV.cells).toArray[i]? = some ((List.replicate n rv0).flatMap RV.cells).toArray[i] := Array.getElem?_eq_getElem h2
  rw [List.getElem?_toArray, this] at h3
  have h4 : i % 3 = 0 ∨ i % 3 = 1 ∨ i % 3 = 2 := by omega
  simp only [madeCells, Array.getElem_map, Array.getElem_range]
  rw [rv0_cells] at h3
  generalize ((List.replicate n rv0).flatMap RV.cells).toArray[i] = u at h3
  rcases h4 with h4 | h4 | h4 <;> rw [h4] at h3 <;> obtain rfl := Option.some.inj h3 <;> simp [h4]
theorem info175 : (Tryz.prog.info? 175).map (fun i => (i.zero, i.size, i.bytes)) = some (some (.agg #[.bool false, .slice none 0 0, .slice none 0 0]), 3, 56) := by kernel_rfl
theorem make3 {ops : Array Oper} {rest : List Oper} {o : Oper} {a : Act} {Q : Exit → Act → World → Prop} {W : World} (x y : Operand) (hg0 : o.guard = none) (ho : o.op = .makeSlice 170 x y) (n : Nat) (hx : a.eval x = .int .i64 n) (hy : a.eval y = .int .i64 n) (hl : n ≤ 1000000000)
  (h : ∀ w1 ad, ad = ⟨W.heap.size, 0, none⟩ → Fr W w1 [] → Arr w1 W.heap.size (List.replicate n rv0) → wpList Tryz.prog ops Q rest (a.put o.dst (.slice (some ad) n n)) w1) : wpList Tryz.prog ops Q (o :: rest) a W := by
 obtain ⟨i0, hi0, hz0, hz1, hz2⟩ := info_parts info175
 have hbb : ((i0.bytes : Nat) : Int) * (n : Int) ≤ 281474976710656 := by
  rw [hz2]; omega
 have hr := run_make (P := Tryz.prog) W 170 175 i0 _ Tryz.underlying170 hi0 hz0 .i64 .i64 (n : Int) (n : Int) (by omega) (by omega) hbb (by omega)
 simp only [Int.toNat_natCast, hz1] at hr
 have hc : (Value.agg #[.bool false, .slice none 0 0, .slice none 0 0]).cells = #[.bool false, .slice none 0 0, .slice none 0 0] := rfl
 rw [hc, made_states] at hr
 refine wpl_val hg0 (by unfold execOp; simp [ho, hx, hy, hr]) (h _ _ rfl ((Fr.refl _ _).alloc _) ⟨heap_alloc_new _ _, fun v hv => ?_⟩)
 rw [List.eq_of_mem_replicate hv]
 exact rv0_ok _ _
theorem add_ad (S t : Nat) : (⟨S, 0, none⟩ : Addr).add t = ⟨S, t, none⟩ := by
 simp only [Addr.add]
 split
 ·rename_i h; subst h; rfl
 ·simp
def handTo (b : RS) (l : List RS) (t : Nat) : Int × List RS :=
 if handRE (l.getD t (false, [], [])).1 (l.getD t (false, [], [])).2.1 b.2.1 ≠ 0 then (handRE (l.getD t (false, [], [])).1 (l.getD t (false, [], [])).2.1 b.2.1, l) else (0, l.set t (true, b.2.1, handRS (l.getD t (false, [], [])).1 (l.getD t (false, [], [])).2.2 b.2.2))
def afterR (x : S113) (s : RS) : RS := (true, behindX x.f0 s.2.1 s.2.2 x.f1, behindS x.f0 s.2.1 s.2.2 x.f1)
def hand1 (x : S113) (k : Nat) (b : RS) (l : List RS) : Int × List RS := if x.f0 = 26 ∨ x.f0 = 0 then (0, l) else handTo b l (k + 1)
def hand2 (x : S113) (k : Nat) (b : RS) (r : Int × List RS) : Int × List RS := if r.1 ≠ 0 then r else if x.f0 = 26 ∨ x.f0 = 27 then handTo b r.2 (k + 1 + x.f1.toNat) else r
def refStep (code : List S113) (day : Int) (k : Nat) (l : List RS) : Int × List RS :=
 let s := l.getD k (false, [], [])
 let x := code.getD k z113
 let e := wrongP s.1 s.2.1 s.2.2 x.f0 x.f1 x.f2 day k code.length
 if e ≠ 0 then (e, l) else hand2 x k (afterR x s) (hand1 x k (afterR x s) l)
def refSeg (code : List S113) (day : Int) : Nat → Nat → List RS → Int × List RS
 | 0, _, l => (0, l)
 | m + 1, k, l => if (refStep code day k l).1 = 0 then refSeg code day m (k + 1) (refStep code day k l).2 else refStep code day k l
def initR (n : Nat) : List RS := (List.replicate n (false, [], [])).set 0 (true, [], [])
theorem rseg_step {code : List S113} {day : Int} {k : Nat} {l : List RS} (hk : k < code.length) : refSeg code day (code.length - k) k l = if (refStep code day k l).1 = 0 then refSeg code day (code.length - (k + 1)) (k + 1) (refStep code day k l).2 else refStep code day k l := by
 rw [show code.length - k = (code.length - (k + 1)) + 1 by omega]
 rfl
end Go.Proofs.YtpoehkacfmljcaaGreatDoor.H
