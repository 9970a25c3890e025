/- The reference's lists. -/
import Derived.Test.YtpoehkacfmljcaaGreatDoorZV
import Derived.Test.YtpoehkacfmljcaaGreatDoorZWK
import Derived.Test.YtpoehkacfmljcaaGreatDoorZHJ
import Derived.Test.YtpoehkacfmljcaaGreatDoorZHY
set_option maxHeartbeats 4000000
set_option maxRecDepth 100000
namespace Go.Proofs.YtpoehkacfmljcaaGreatDoor.H
open Go.RowKit Go.Proofs.YtpoehkacfmljcaaGreatDoorW.PrintWords Go.Proofs.YtpoehkacfmljcaaGreatDoorW.PrintLast Go.Proofs.YtpoehkacfmljcaaGreatDoorW.PrintMore
open Go.ChangeMaps (setBlock)
attribute [local go_sem] max2_int min2_int max_two min_two max_three min_three max_four min_four
set_option linter.unusedVariables false
set_option linter.unusedSimpArgs false
open Go.Proofs.YtpoehkacfmljcaaGreatDoor.M
theorem rRising_calls (A : Option Addr) (c : Nat) (l : List ByteArray) (w : World) (hC : Kd.C Kd.string w A l.length l) (hc : l.length ≤ c) :
  Calls Tryz.prog 128 #[.slice A l.length c] w fun e w' => e = .returned (.bool (risingS l)) ∧ Drawn0 w w' := by
 have HC := AsM hC
 have hl63 := Kd.C_max hC
 clear hC
 go_enter Tryz.func128, Tryz.ntmps128
 go_wp2
 go_loopg [3] l.length (fun kq x wr => ∃ j : Nat, x = .int .i64 ((j : Int) + 1) ∧ Aside0 (l.length - j ≤ kq) ∧ Aside0 (j + 1 ≤ l.length ∨ j = 0) ∧ Drawn0 w wr ∧ Aside0 (∀ i, i < j → lessS (l.getD i ByteArray.empty) (l.getD (i + 1) ByteArray.empty) = true))
 case atStart => exact ⟨0, rfl, ⟨by omega⟩, ⟨by omega⟩, DQ, ⟨fun j hj => by omega⟩⟩
 case round =>
  obtain ⟨j, rfl, HM, HK, ⟨nk, rfl⟩, HA⟩ := hrel
  by_cases hkl : j + 1 < l.length
  ·have p0 : (0 : Int) ≤ (j : Int) + 1 := by omega
   have p1 : (j : Int) + 1 < l.length := by omega
   have p2 : ((j : Int) + 1).toNat = j + 1 := by omega
   have p3 : IntKind.i64.wrap (j : Int) = j := by rw [IntKind.wrap_i64]; omega
   have n3 : decide ((j : Int) + 1 < l.length) = true := by simpa using p1
   obtain ⟨ad, rfl, h1⟩ := str_at HC.out (j + 1) hkl
   obtain ⟨ad2, he, h0⟩ := str_at HC.out j (by omega)
   cases he
   obtain ⟨x, hx⟩ : ∃ x, l.getD (j + 1) ByteArray.empty = x := ⟨_, rfl⟩
   obtain ⟨y, hy⟩ : ∃ y, l.getD j ByteArray.empty = y := ⟨_, rfl⟩
   rw [hx] at h1
   rw [hy] at h0
   have h1 : w.cell? ⟨ad.block, ad.off + (j + 1), none⟩ = some (.string x) := by simpa [Addr.add] using h1
   have HX := AsM hx
   have HY := AsM hy
   have q0 : (0 : Int) ≤ (j : Int) := by omega
   have q1 : (j : Int) < l.length := by omega
   clear hx hy
   go_wp2
   go_region_held3 (fun w' => w'.cell? ⟨ad.block, ad.off + (j + 1), none⟩ = some (.string x) ∧ w'.cell? (ad.add j) = some (.string y)) (first | exact ⟨h1, h0⟩ | go_keep) (fail)
   go_wp2
   ·rename_i h9
    have h8 : lessS y x = false := by simpa [lessS] using h9
    have e : risingS l = false := by
     unfold risingS
     rw [List.all_eq_false]
     exact ⟨j, List.mem_range.2 (by omega), by rw [HX.out, HY.out, h8]; simp⟩
    go_ret
    exact ⟨by rw [e]; rfl, DQ⟩
   ·rename_i h9
    have h8 : lessS y x = true := by simpa [lessS] using h9
    go_roundg (l.length - (j + 1))
    case measure => have := HM.out; omega
    case rel =>
     refine ⟨j + 1, by go_num, ⟨Nat.le_refl _⟩, ⟨.inl (by omega)⟩, DQ, ⟨fun i hi => ?_⟩⟩
     rcases Nat.lt_or_ge i j with h | h
     ·exact HA.out i h
     ·obtain rfl : i = j := by omega
      rw [HX.out, HY.out]; exact h8
  ·have n3 : decide ((j : Int) + 1 < l.length) = false := by simp; omega
   have e : risingS l = true := by
    unfold risingS
    rw [List.all_eq_true]
    intro i hi
    have := List.mem_range.1 hi
    exact HA.out i (by have := HK.out; omega)
   go_wp2
   go_ret
   exact ⟨by rw [e]; rfl, DQ⟩
theorem rWithin12_calls (n most : Int) (b : Bool) (hb : withinB n most = b) (w : World) : Calls Tryz.prog 107 #[.int .i64 n, .int .i64 most] w fun e w' => e = .returned (.bool b) ∧ Drawn0 w w' := by
 subst hb
 by_cases h : 0 ≤ n <;> by_cases h2 : n ≤ most
 all_goals (
  have e : withinB n most = withinB n most := rfl
  go_enter Tryz.func107, Tryz.ntmps107
  go_wp2
  go_ret
  exact ⟨by simp [withinB, h, h2], DQ⟩)
theorem any_snoc {α : Type} (p : α → Bool) (l : List α) {k : Nat} {x : α} (hx : l[k]? = some x) (h : (l.take k).any p = false) (hp : p x = false) : (l.take (k + 1)).any p = false := by
 rw [List.take_add_one, hx, List.any_append, h]
 simp [hp]
theorem getD_get {α : Type} {l : List α} {k : Nat} {d x : α} (hk : k < l.length) (hx : l.getD k d = x) : l[k]? = some x := by
 rw [List.getD_eq_getElem?_getD, List.getElem?_eq_getElem hk] at hx
 rw [List.getElem?_eq_getElem hk]
 simpa using hx
theorem rLists_calls (A0 : Option Addr) (c0 : Nat) (names : List ByteArray) (A1 : Option Addr) (c1 : Nat) (curs : List ByteArray) (A2 : Option Addr) (c2 : Nat) (pool : List Int) (hor cel slo sta : Int) (v7 : Value) (w : World) (hr0 : Kd.C Kd.string w A0 names.length names) (hc0 : names.length ≤ c0) (hr1 : Kd.C Kd.string w A1 curs.length curs) (hc1 : curs.length ≤ c1) (hr2 : Kd.C (Kd.int .i64) w A2 pool.length pool) (hsz : ∀ s ∈ names, s.size ≤ 9223372036854775806) :
  Calls Tryz.prog 105 #[.agg #[.slice A0 names.length c0, .slice A1 curs.length c1, .slice A2 pool.length c2, .int .i64 hor, .int .i64 cel, .int .i64 slo, .int .i64 sta, v7]] w (MayPost (listsB names curs pool hor cel slo sta) w) := by
 have hup := Tryz.underlying26
 have HC0 := AsM hr0
 have HC1 := AsM hr1
 have HC2 := AsM hr2
 have HSZ := AsM hsz
 obtain ⟨bn1, hn1⟩ : ∃ b, decide ((64 : Int) < (names.length : Int)) = b := ⟨_, rfl⟩
 obtain ⟨bn2, hn2⟩ : ∃ b, decide ((4096 : Int) < (curs.length : Int)) = b := ⟨_, rfl⟩
 obtain ⟨bn3, hn3⟩ : ∃ b, decide ((16384 : Int) < (pool.length : Int)) = b := ⟨_, rfl⟩
 obtain ⟨br1, hR1⟩ : ∃ b, risingS names = b := ⟨_, rfl⟩
 obtain ⟨br2, hR2⟩ : ∃ b, risingS curs = b := ⟨_, rfl⟩
 obtain ⟨br3, hR3⟩ : ∃ b, risingI pool = b := ⟨_, rfl⟩
 obtain ⟨bq1, hq1⟩ : ∃ b, names.any (fun s => !namedB s) = b := ⟨_, rfl⟩
 obtain ⟨bq2, hq2⟩ : ∃ b, curs.any (fun s => !curB s) = b := ⟨_, rfl⟩
 obtain ⟨bw1, hw1⟩ : ∃ b, withinB hor 3660 = b := ⟨_, rfl⟩
 obtain ⟨bw2, hw2⟩ : ∃ b, withinB cel 32768 = b := ⟨_, rfl⟩
 obtain ⟨bw3, hw3⟩ : ∃ b, withinB slo 16384 = b := ⟨_, rfl⟩
 obtain ⟨bw4, hw4⟩ : ∃ b, withinB sta 16384 = b := ⟨_, rfl⟩
 have hN : listsB names curs pool hor cel slo sta = (!bn1 && !bn2 && !bn3 && br1 && br2 && br3 && !bq1 && !bq2 && bw1 && bw2 && bw3 && bw4) := by unfold listsB; rw [hn1, hn2, hn3, hR1, hR2, hR3, hq1, hq2, hw1, hw2, hw3, hw4]
 have HRA : Aside0 (∀ W, Fr w W [] → Calls Tryz.prog 128 #[.slice A0 names.length c0] W fun e w' => e = .returned (.bool br1) ∧ Drawn0 W w') := ⟨fun W hf => hR1 ▸ rRising_calls A0 c0 names W (Kd.C_below hr0 hf.below) hc0⟩
 have HRB : Aside0 (∀ W, Fr w W [] → Calls Tryz.prog 128 #[.slice A1 curs.length c1] W fun e w' => e = .returned (.bool br2) ∧ Drawn0 W w') := ⟨fun W hf => hR2 ▸ rRising_calls A1 c1 curs W (Kd.C_below hr1 hf.below) hc1⟩
 have HW1 : Aside0 (∀ W, Calls Tryz.prog 107 #[.int .i64 hor, .int .i64 3660] W fun e w' => e = .returned (.bool bw1) ∧ Drawn0 W w') := ⟨fun W => rWithin12_calls hor 3660 bw1 hw1 W⟩
 have HW2 : Aside0 (∀ W, Calls Tryz.prog 107 #[.int .i64 cel, .int .i64 32768] W fun e w' => e = .returned (.bool bw2) ∧ Drawn0 W w') := ⟨fun W => rWithin12_calls cel 32768 bw2 hw2 W⟩
 have HW3 : Aside0 (∀ W, Calls Tryz.prog 107 #[.int .i64 slo, .int .i64 16384] W fun e w' => e = .returned (.bool bw3) ∧ Drawn0 W w') := ⟨fun W => rWithin12_calls slo 16384 bw3 hw3 W⟩
 have HW4 : Aside0 (∀ W, Calls Tryz.prog 107 #[.int .i64 sta, .int .i64 16384] W fun e w' => e = .returned (.bool bw4) ∧ Drawn0 W w') := ⟨fun W => rWithin12_calls sta 16384 bw4 hw4 W⟩
 have HR3 := AsM hR3
 have HQ1 := AsM hq1
 have HQ2 := AsM hq2
 rw [hN]
 have hm1 : (bn1 = false → names.length ≤ 64) := fun h => by subst h; have h9 : ¬ ((64 : Int) < (names.length : Int)) := of_decide_eq_false hn1; omega
 have hm2 : (bn2 = false → curs.length ≤ 4096) := fun h => by subst h; have h9 : ¬ ((4096 : Int) < (curs.length : Int)) := of_decide_eq_false hn2; omega
 have hm3 : (bn3 = false → pool.length ≤ 16384) := fun h => by subst h; have h9 : ¬ ((16384 : Int) < (pool.length : Int)) := of_decide_eq_false hn3; omega
 have hx1 : decide (64 < names.length) = bn1 := by rw [← hn1]; exact decide_eq_decide.2 (by omega)
 have hx2 : decide (4096 < curs.length) = bn2 := by rw [← hn2]; exact decide_eq_decide.2 (by omega)
 have hx3 : decide (16384 < pool.length) = bn3 := by rw [← hn3]; exact decide_eq_decide.2 (by omega)
 have HM := AsM (And.intro hm1 (And.intro hm2 hm3))
 clear hr0 hr1 hr2 hsz hR1 hR2 hR3 hq1 hq2 hw1 hw2 hw3 hw4 hN hm1 hm2 hm3
 have hcs : (br1 = false ∨ (br1 = true ∧ br2 = false) ∨ (br1 = true ∧ br2 = true ∧ bn1 = true) ∨ (br1 = true ∧ br2 = true ∧ bn1 = false ∧ bn2 = true) ∨ (br1 = true ∧ br2 = true ∧ bn1 = false ∧ bn2 = false ∧ bn3 = true)) ∨ (br1 = true ∧ br2 = true ∧ bn1 = false ∧ bn2 = false ∧ bn3 = false) := by cases br1 <;> cases br2 <;> cases bn1 <;> cases bn2 <;> cases bn3 <;> decide
 rcases hcs with hcs | ⟨rfl, rfl, rfl, rfl, rfl⟩
 ·rcases hcs with rfl | ⟨rfl, rfl⟩ | ⟨rfl, rfl, rfl⟩ | ⟨rfl, rfl, rfl, rfl⟩ | ⟨rfl, rfl, rfl, rfl, rfl⟩
  all_goals (
   go_enter Tryz.func105, Tryz.ntmps105
   go_wp2_with (first | (go_at_call 128; (with_reducible refine (HRA.out _ ?_).mono ?_); (next => exact FQ); rintro e w' ⟨rfl, ⟨nd, rfl⟩⟩) | (go_at_call 128; (with_reducible refine (HRB.out _ ?_).mono ?_); (next => exact FQ); rintro e w' ⟨rfl, ⟨nd2, rfl⟩⟩))
   go_ret
   exact ⟨by simp, FQ⟩)
 obtain ⟨hm1, hm2, hm3⟩ := HM.out
 have hm1 := hm1 rfl
 have hm2 := hm2 rfl
 have hm3 := hm3 rfl
 clear HM
 go_enter Tryz.func105, Tryz.ntmps105
 go_upto_region 5 with (first | (go_at_call 128; (with_reducible refine (HRA.out _ ?_).mono ?_); (next => exact FQ); rintro e w' ⟨rfl, ⟨nd, rfl⟩⟩) | (go_at_call 128; (with_reducible refine (HRB.out _ ?_).mono ?_); (next => exact FQ); rintro e w' ⟨rfl, ⟨nd2, rfl⟩⟩))
 refine name_ (fun V => Aside0 (Fr w V []) ∧ Aside0 (V.heap[w.heap.size]? = some (.cells #[.slice A0 names.length c0, .slice A1 curs.length c1, .slice A2 pool.length c2, .int .i64 hor, .int .i64 cel, .int .i64 slo, .int .i64 sta, v7] 26 (0, 0)))) ⟨⟨FQ⟩, ⟨by first | exact blk_drewN (blk_drewN (blk_newN rfl) _) _ | exact blk_drewN (blk_newN rfl) _⟩⟩ ?_
 clear HRA HRB hx1 hx2 hx3 hn1 hn2 hn3
 rintro V1 ⟨HF1, HX1⟩
 have x0 := blk_cell HX1.out 0
 go_wp2
 go_loopg [5, 6] names.length (fun kq s5 s6 wr => ∃ k : Nat, s5 = .int .i64 k ∧ k ≤ names.length ∧ Aside0 (names.length - k ≤ kq) ∧ Aside0 (Fr w wr []) ∧ Aside0 (wr.heap[w.heap.size]? = some (.cells #[.slice A0 names.length c0, .slice A1 curs.length c1, .slice A2 pool.length c2, .int .i64 hor, .int .i64 cel, .int .i64 slo, .int .i64 sta, v7] 26 (0, 0))) ∧ Aside0 ((names.take k).any (fun s => !namedB s) = false))
 case atStart => exact ⟨0, rfl, Nat.zero_le _, ⟨Nat.le_refl _⟩, HF1, HX1, ⟨rfl⟩⟩
 case round =>
  clear x0 HF1 HX1
  obtain ⟨k, rfl, hk, HM, HF, HX, HA⟩ := hrel
  have x0 := blk_cell HX.out 0
  by_cases hkl : k < names.length
  ·have n3 : decide (k < names.length) = true := by simpa using hkl
   obtain ⟨ad, rfl, h1⟩ := str_at (Kd.C_below HC0.out HF.out.below) k hkl
   obtain ⟨s, hs⟩ : ∃ s, names.getD k ByteArray.empty = s := ⟨_, rfl⟩
   rw [hs] at h1
   have hsm := getD_get hkl hs
   have HSM := AsM hsm
   obtain ⟨bb, hbb⟩ : ∃ b, namedB s = b := ⟨_, rfl⟩
   have HCA : Aside0 (Calls Tryz.prog 129 #[.string s] wr (MayPost bb wr)) := ⟨hbb ▸ rCapital_calls s (HSZ.out s (List.mem_of_getElem? hsm)) wr⟩
   have HBB := AsM hbb
   clear hs hsm hbb
   cases bb with
   | true =>
    go_wp2_with (first | (go_at_call 129; (refine (HCA.out).mono ?_); rintro e W2 ⟨rfl, hF2⟩; have HX2 := AsM (hF2.blk HX.out (by simp)); have HF2 := AsM (HF.out.trans hF2 (by simp)); clear hF2))
    go_roundg (names.length - (k + 1))
    case measure => have := HM.out; omega
    case rel => exact ⟨k + 1, by go_num, by omega, ⟨Nat.le_refl _⟩, HF2, HX2, ⟨any_snoc _ _ HSM.out HA.out (by rw [HBB.out]; rfl)⟩⟩
   | false =>
    go_wp2_with (first | (go_at_call 129; (refine (HCA.out).mono ?_); rintro e W2 ⟨rfl, hF2⟩; have HF2 := AsM (HF.out.trans hF2 (by simp)); clear hF2))
    go_ret
    obtain rfl : true = bq1 := by rw [← HQ1.out]; exact (List.any_eq_true.2 ⟨s, List.mem_of_getElem? HSM.out, by rw [HBB.out]; rfl⟩).symm
    exact ⟨by simp, HF2.out⟩
  ·obtain rfl : k = names.length := by omega
   have n3 : decide (names.length < names.length) = false := by simp
   have hA := HA.out
   rw [List.take_length, HQ1.out] at hA
   subst hA
   clear HQ1 HC0 HSZ
   go_upto_region 11 with fail
   have x1 := blk_cell HX.out 1
   clear x0 n3 hk HM HA hkl
   go_wp2
   obtain ⟨wo, hwo⟩ : ∃ wo : World, wo = wr := ⟨_, rfl⟩
   go_loopg [7, 8] curs.length (fun kq s7 s8 wr => ∃ k : Nat, s7 = .int .i64 k ∧ k ≤ curs.length ∧ Aside0 (curs.length - k ≤ kq) ∧ Drawn0 wo wr ∧ Aside0 ((curs.take k).any (fun s => !curB s) = false))
   case atStart => exact ⟨0, rfl, Nat.zero_le _, ⟨Nat.le_refl _⟩, by rw [hwo]; exact Drawn0.refl _, ⟨rfl⟩⟩
   case round =>
   subst hwo
   obtain ⟨k, rfl, hk, HM, ⟨nk, rfl⟩, HA⟩ := hrel
   by_cases hkl : k < curs.length
   ·have n3 : decide (k < curs.length) = true := by simpa using hkl
    obtain ⟨ad, rfl, h1⟩ := str_at (Kd.C_below HC1.out HF.out.below) k hkl
    obtain ⟨s, hs⟩ : ∃ s, curs.getD k ByteArray.empty = s := ⟨_, rfl⟩
    rw [hs] at h1
    have hsm := getD_get hkl hs
    have HSM := AsM hsm
    obtain ⟨bb, hbb⟩ : ∃ b, curB s = b := ⟨_, rfl⟩
    have HCA : Aside0 (∀ W, Calls Tryz.prog 130 #[.string s] W fun e w' => e = .returned (.bool bb) ∧ Drawn0 W w') := ⟨fun W => hbb ▸ rCurrency_calls s W⟩
    have HBB := AsM hbb
    clear hs hsm hbb
    cases bb with
    | true =>
     go_wp2_with (first | (go_at_call 130; (refine (HCA.out _).mono ?_); rintro e w' ⟨rfl, ⟨nd, rfl⟩⟩))
     go_roundg (curs.length - (k + 1))
     case measure => have := HM.out; omega
     case rel => exact ⟨k + 1, by go_num, by omega, ⟨Nat.le_refl _⟩, DQ, ⟨any_snoc _ _ HSM.out HA.out (by rw [HBB.out]; rfl)⟩⟩
    | false =>
     go_wp2_with (first | (go_at_call 130; (refine (HCA.out _).mono ?_); rintro e w' ⟨rfl, ⟨nd, rfl⟩⟩))
     go_ret
     obtain rfl : true = bq2 := by rw [← HQ2.out]; exact (List.any_eq_true.2 ⟨s, List.mem_of_getElem? HSM.out, by rw [HBB.out]; rfl⟩).symm
     exact ⟨by simp, FX HF.out⟩
   ·obtain rfl : k = curs.length := by omega
    have n3 : decide (curs.length < curs.length) = false := by simp
    have hA := HA.out
    rw [List.take_length, HQ2.out] at hA
    subst hA
    clear HQ2 HC1
    go_upto_region 17 with fail
    refine name_ (fun V => Aside0 (Fr w V []) ∧ Aside0 (V.heap[w.heap.size]? = some (.cells #[.slice A0 names.length c0, .slice A1 curs.length c1, .slice A2 pool.length c2, .int .i64 hor, .int .i64 cel, .int .i64 slo, .int .i64 sta, v7] 26 (0, 0)))) ⟨⟨FX HF.out⟩, ⟨blk_drewN HX.out _⟩⟩ ?_
    clear x1 n3 hk HM HA hkl HF HX
    rintro V2 ⟨HF, HX⟩
    have x2 := blk_cell HX.out 2
    have HC2' := AsM (Kd.C_below HC2.out HF.out.below)
    go_wp2
    go_loopg [9] pool.length (fun kq x wr => ∃ j : Nat, x = .int .i64 ((j : Int) + 1) ∧ Aside0 (pool.length - j ≤ kq) ∧ Aside0 (j + 1 ≤ pool.length ∨ j = 0) ∧ Drawn0 V2 wr ∧ Aside0 (∀ i, i < j → pool.getD i 0 < pool.getD (i + 1) 0))
    case atStart => exact ⟨0, rfl, ⟨by omega⟩, ⟨by omega⟩, DQ, ⟨fun j hj => by omega⟩⟩
    case round =>
    obtain ⟨j, rfl, HM, HK, ⟨nk2, rfl⟩, HA⟩ := hrel
    by_cases hkl : j + 1 < pool.length
    ·have p0 : (0 : Int) ≤ (j : Int) + 1 := by omega
     have p1 : (j : Int) + 1 < pool.length := by omega
     have p2 : ((j : Int) + 1).toNat = j + 1 := by omega
     have p3 : IntKind.i64.wrap (j : Int) = j := by rw [IntKind.wrap_i64]; omega
     have n3 : decide ((j : Int) + 1 < pool.length) = true := by simpa using p1
     obtain ⟨ad, rfl, h1⟩ := iat_at HC2'.out (j + 1) hkl
     obtain ⟨ad2, he, h0⟩ := iat_at HC2'.out j (by omega)
     cases he
     obtain ⟨x, hx⟩ : ∃ x, pool.getD (j + 1) 0 = x := ⟨_, rfl⟩
     obtain ⟨y, hy⟩ : ∃ y, pool.getD j 0 = y := ⟨_, rfl⟩
     rw [hx] at h1
     rw [hy] at h0
     have h1 : V2.cell? ⟨ad.block, ad.off + (j + 1), none⟩ = some (.int .i64 x) := by simpa [Addr.add] using h1
     have HXY := AsM (And.intro hx hy)
     have q0 : (0 : Int) ≤ (j : Int) := by omega
     have q1 : (j : Int) < pool.length := by omega
     clear hx hy
     by_cases hxy : y < x
     ·have n5 : decide (x ≤ y) = false := by simp; omega
      have HXL := AsM hxy
      clear hxy
      go_upto_region 20 with fail
      go_quiet (fail)
      go_wp2
      go_roundg (pool.length - (j + 1))
      case measure => have := HM.out; omega
      case rel =>
       refine ⟨j + 1, by go_num, ⟨Nat.le_refl _⟩, ⟨.inl (by omega)⟩, DQ, ⟨fun i hi => ?_⟩⟩
       rcases Nat.lt_or_ge i j with h | h
       ·exact HA.out i h
       ·obtain rfl : i = j := by omega
        rw [HXY.out.1, HXY.out.2]; exact HXL.out
     ·have n5 : decide (x ≤ y) = true := by simp; omega
      have HXL := AsM hxy
      clear hxy
      go_upto_region 20 with fail
      go_quiet (fail)
      go_wp2
      go_ret
      obtain rfl : false = br3 := by
       rw [← HR3.out]
       unfold risingI
       exact (List.all_eq_false.2 ⟨j, List.mem_range.2 (by omega), by rw [HXY.out.1, HXY.out.2]; simpa using HXL.out⟩).symm
      exact ⟨by simp, FX HF.out⟩
    ·have n3 : decide ((j : Int) + 1 < pool.length) = false := by simp; omega
     obtain rfl : true = br3 := by
      rw [← HR3.out]
      unfold risingI
      refine (List.all_eq_true.2 fun i hi => ?_).symm
      have h7 := List.mem_range.1 hi
      have h8 := HA.out i (by have := HK.out; omega)
      simpa using h8
     clear HR3
     go_upto_region 22 with fail
     have x3 := blk_cell HX.out 3
     have x4 := blk_cell HX.out 4
     have x5 := blk_cell HX.out 5
     have x6 := blk_cell HX.out 6
     go_upto_region 26 with (first | (go_at_call 107; (with_reducible refine (HW1.out _).mono ?_); rintro e w' ⟨rfl, ⟨nd5, rfl⟩⟩) | (go_at_call 107; (with_reducible refine (HW2.out _).mono ?_); rintro e w' ⟨rfl, ⟨nd6, rfl⟩⟩) | (go_at_call 107; (with_reducible refine (HW3.out _).mono ?_); rintro e w' ⟨rfl, ⟨nd7, rfl⟩⟩) | (go_at_call 107; (with_reducible refine (HW4.out _).mono ?_); rintro e w' ⟨rfl, ⟨nd8, rfl⟩⟩))
     cases bw1 <;> cases bw2 <;> cases bw3
     all_goals (
      go_wp2
      go_ret
      exact ⟨by simp, FX HF.out⟩)
def boundR (nn nc np : Nat) (cel slo op : Int) : Int := if op = 1 then np else if op = 3 then nn else if op = 28 then nc else if op = 4 ∨ op = 5 then cel else if op = 6 ∨ op = 7 then slo else 262144
theorem bound_calls (A0 : Option Addr) (n0 c0 : Nat) (A1 : Option Addr) (n1 c1 : Nat) (A2 : Option Addr) (n2 c2 : Nat) (hor cel slo sta : Int) (v7 : Value) (op : Int) (w : World) :
  Calls Tryz.prog 132 #[.agg #[.slice A0 n0 c0, .slice A1 n1 c1, .slice A2 n2 c2, .int .i64 hor, .int .i64 cel, .int .i64 slo, .int .i64 sta, v7], .int .i64 op] w fun e w' => e = .returned (.int .i64 (boundR n0 n1 n2 cel slo op)) ∧ Fr w w' [] := by
 have hup := Tryz.underlying26
 obtain ⟨R, hR⟩ : ∃ x, boundR n0 n1 n2 cel slo op = x := ⟨_, rfl⟩
 rw [hR]
 unfold boundR at hR
 have hcs : op = 1 ∨ op = 3 ∨ op = 28 ∨ op = 4 ∨ op = 5 ∨ op = 6 ∨ op = 7 ∨ (op ≠ 1 ∧ op ≠ 3 ∧ op ≠ 28 ∧ op ≠ 4 ∧ op ≠ 5 ∧ op ≠ 6 ∧ op ≠ 7) := by omega
 rcases hcs with rfl | rfl | rfl | rfl | rfl | rfl | rfl | ⟨k1, k3, k28, k4, k5, k6, k7⟩
 case inr.inr.inr.inr.inr.inr.inr =>
  rw [if_neg k1, if_neg k3, if_neg k28, if_neg (by omega), if_neg (by omega)] at hR
  subst hR
  have e1 : (op == 1) = false := by simpa using k1
  have e3 : (op == 3) = false := by simpa using k3
  have e28 : (op == 28) = false := by simpa using k28
  have e4 : (op == 4) = false := by simpa using k4
  have e5 : (op == 5) = false := by simpa using k5
  have e6 : (op == 6) = false := by simpa using k6
  have e7 : (op == 7) = false := by simpa using k7
  clear k1 k3 k28 k4 k5 k6 k7
  go_enter Tryz.func132, Tryz.ntmps132
  go_wp2
  go_ret
  exact ⟨rfl, FQ⟩
 all_goals (
  simp at hR
  subst hR
  go_enter Tryz.func132, Tryz.ntmps132
  go_wp2
  go_ret
  exact ⟨rfl, FQ⟩)
theorem none_calls (A : Option Addr) (c : Nat) (l : List Int) (w : World) (hC : (Kd.int .i64).C w A l.length l) : Calls Tryz.prog 108 #[.slice A l.length c] w fun e w' => e = .returned (.bool (l.any (fun x => decide (x = 0)))) ∧ Drawn0 w w' := by
 have HC := AsM hC
 have hl63 := Kd.C_max hC
 clear hC
 obtain ⟨R, hR⟩ : ∃ x, l.any (fun x => decide (x = 0)) = x := ⟨_, rfl⟩
 have HR := AsM hR
 rw [hR]
 clear hR
 go_enter Tryz.func108, Tryz.ntmps108
 go_wp2
 go_loopg [3] l.length (fun kq x wr => ∃ k : Nat, x = .int .i64 k ∧ k ≤ l.length ∧ Aside0 (l.length - k ≤ kq) ∧ Drawn0 w wr ∧ Aside0 ((l.take k).any (fun x => decide (x = 0)) = false))
 case atStart => exact ⟨0, rfl, Nat.zero_le _, ⟨Nat.le_refl _⟩, DQ, ⟨rfl⟩⟩
 case round =>
  obtain ⟨k, rfl, hk, HM, ⟨nk, rfl⟩, HA⟩ := hrel
  by_cases hkl : k < l.length
  ·have n3 : decide (k < l.length) = true := by simpa using hkl
   obtain ⟨ad, rfl, h1⟩ := iat_at HC.out k hkl
   obtain ⟨x, hx⟩ : ∃ x, l.getD k 0 = x := ⟨_, rfl⟩
   rw [hx] at h1
   have HX := AsM (getD_get hkl hx)
   clear hx
   by_cases h0 : x = 0
   ·have n4 : (x == 0) = true := by simpa using h0
    have H0 := AsM h0
    clear h0
    go_wp2
    go_ret
    obtain rfl : true = R := by rw [← HR.out]; exact (List.any_eq_true.2 ⟨x, List.mem_of_getElem? HX.out, by simpa using H0.out⟩).symm
    exact ⟨rfl, DQ⟩
   ·have n4 : (x == 0) = false := by simpa using h0
    have H0 := AsM h0
    clear h0
    go_wp2
    go_roundg (l.length - (k + 1))
    case measure => have := HM.out; omega
    case rel => exact ⟨k + 1, by go_num, by omega, ⟨Nat.le_refl _⟩, DQ, ⟨any_snoc _ _ HX.out HA.out (by simpa using H0.out)⟩⟩
  ·obtain rfl : k = l.length := by omega
   have n3 : decide (l.length < l.length) = false := by simp
   obtain rfl : false = R := by have := HA.out; rw [List.take_length, HR.out] at this; exact this.symm
   go_wp2
   go_ret
   exact ⟨rfl, DQ⟩
def icells (l : List Int) : Array Value := (l.map (Value.int .i64)).toArray
theorem icells_set (l : List Int) (n : Nat) (b : Int) : (icells l).setIfInBounds n (.int .i64 b) = icells (l.set n b) := by simp [icells, List.map_set]
theorem icells_get (l : List Int) (n : Nat) {x : Int} (h : l[n]? = some x) : (icells l)[n]? = some (.int .i64 x) := by simp [icells, h]
structure Cnt (w : World) (u g1 g2 g3 : Nat) (cn cc cp : List Int) : Prop where
 blk : w.heap[u]? = some (.cells #[.slice (some ⟨g1, 0, none⟩) cn.length cn.length, .slice (some ⟨g2, 0, none⟩) cc.length cc.length, .slice (some ⟨g3, 0, none⟩) cp.length cp.length] 178 (0, 0))
 n1 : w.heap[g1]? = some (.cells (icells cn) 3 (0, 0))
 n2 : w.heap[g2]? = some (.cells (icells cc) 3 (0, 0))
 n3 : w.heap[g3]? = some (.cells (icells cp) 3 (0, 0))
 d12 : g1 ≠ g2
 d13 : g1 ≠ g3
 d23 : g2 ≠ g3
theorem Cnt.ne {w : World} {u g1 g2 g3 : Nat} {cn cc cp : List Int} (h : Cnt w u g1 g2 g3 cn cc cp) : u ≠ g1 ∧ u ≠ g2 ∧ u ≠ g3 := by
 refine ⟨fun e => ?_, fun e => ?_, fun e => ?_⟩
 ·have := h.blk; rw [e, h.n1] at this; simp at this
 ·have := h.blk; rw [e, h.n2] at this; simp at this
 ·have := h.blk; rw [e, h.n3] at this; simp at this
theorem Cnt.fr {w w' : World} {u g1 g2 g3 : Nat} {cn cc cp : List Int} (h : Cnt w u g1 g2 g3 cn cc cp) (hf : Fr w w' []) : Cnt w' u g1 g2 g3 cn cc cp :=
 ⟨hf.blk h.blk (by simp), hf.blk h.n1 (by simp), hf.blk h.n2 (by simp), hf.blk h.n3 (by simp), h.d12, h.d13, h.d23⟩
theorem Cnt.set1 {w : World} {u g1 g2 g3 : Nat} {cn cc cp : List Int} (h : Cnt w u g1 g2 g3 cn cc cp) (n : Nat) (x : Int) : Cnt (w.setCell ⟨g1, n, none⟩ (.int .i64 x)) u g1 g2 g3 (cn.set n x) cc cp :=
 ⟨by rw [List.length_set]; exact at_far h.blk h.ne.1 _, by rw [← icells_set]; exact blk_set h.n1 n _, at_far h.n2 (Ne.symm h.d12) _, at_far h.n3 (Ne.symm h.d13) _, h.d12, h.d13, h.d23⟩
theorem Cnt.set2 {w : World} {u g1 g2 g3 : Nat} {cn cc cp : List Int} (h : Cnt w u g1 g2 g3 cn cc cp) (n : Nat) (x : Int) : Cnt (w.setCell ⟨g2, n, none⟩ (.int .i64 x)) u g1 g2 g3 cn (cc.set n x) cp :=
 ⟨by rw [List.length_set]; exact at_far h.blk h.ne.2.1 _, at_far h.n1 h.d12 _, by rw [← icells_set]; exact blk_set h.n2 n _, at_far h.n3 (Ne.symm h.d23) _, h.d12, h.d13, h.d23⟩
theorem Cnt.set3 {w : World} {u g1 g2 g3 : Nat} {cn cc cp : List Int} (h : Cnt w u g1 g2 g3 cn cc cp) (n : Nat) (x : Int) : Cnt (w.setCell ⟨g3, n, none⟩ (.int .i64 x)) u g1 g2 g3 cn cc (cp.set n x) :=
 ⟨by rw [List.length_set]; exact at_far h.blk h.ne.2.2 _, at_far h.n1 h.d13 _, at_far h.n2 h.d23 _, by rw [← icells_set]; exact blk_set h.n3 n _, h.d12, h.d13, h.d23⟩
def fl (l : List Int) : List Bool := l.map fun c => !(decide (c = 0))
theorem fl_set (l : List Int) (n : Nat) {c : Int} (h : 0 ≤ c) : fl (l.set n (c + 1)) = (fl l).set n true := by
 unfold fl
 rw [List.map_set]
 congr 1
 have : c + 1 ≠ 0 := by omega
 simp [this]
theorem fl_len (l : List Int) : (fl l).length = l.length := by simp [fl]
theorem set_le {l : List Int} {n : Nat} {c M : Int} (h : ∀ x ∈ l, 0 ≤ x ∧ x ≤ M) (h0 : 0 ≤ c) (h1 : c ≤ M) : ∀ x ∈ l.set n (c + 1), 0 ≤ x ∧ x ≤ M + 1 := fun x hx => by
 rcases List.mem_or_eq_of_mem_set hx with h2 | rfl
 ·have := h x h2; omega
 ·omega
theorem le_mono {l : List Int} {M N : Int} (h : ∀ x ∈ l, 0 ≤ x ∧ x ≤ M) (hN : M ≤ N) : ∀ x ∈ l, 0 ≤ x ∧ x ≤ N := fun x hx => by have := h x hx; omega
def CntB (nn nc np : Nat) (u g1 g2 g3 : Nat) (b : BL) (M : Int) (w : World) : Prop :=
 ∃ cn cc cp, Cnt w u g1 g2 g3 cn cc cp ∧ cn.length = nn ∧ cc.length = nc ∧ cp.length = np ∧ b = (fl cn, fl cc, fl cp) ∧ (∀ x ∈ cn, 0 ≤ x ∧ x ≤ M) ∧ (∀ x ∈ cc, 0 ≤ x ∧ x ≤ M) ∧ (∀ x ∈ cp, 0 ≤ x ∧ x ≤ M)
theorem kRow_le2 : ∀ i, i < 29 → (kRow i).2.2.1 < 262144 := by
 have h : ∀ i : Fin 29, (kRow i).2.2.1 < 262144 := by decide
 intro i hi
 exact h ⟨i, hi⟩
theorem valid_le {op A B : Int} (h : validC op A B = 0) : 0 ≤ op ∧ op < 29 ∧ 0 ≤ A ∧ A < 262144 := by
 unfold validC at h
 split at h
 ·rename_i h9
  have := kRow_le2 op.toNat (by omega)
  exact ⟨h9.1, h9.2.1, h9.2.2.1, by omega⟩
 ·exact absurd h (by decide)
theorem use_bound {cel slo op A : Int} {b : BL} (hA : A < 262144) : (useStep cel slo op A b).1 = decide (A < boundR b.1.length b.2.1.length b.2.2.length cel slo op) := by
 unfold useStep boundR
 by_cases h1 : op = 1
 ·rw [if_pos h1, if_pos h1]; split <;> simp <;> omega
 rw [if_neg h1, if_neg h1]
 by_cases h3 : op = 3
 ·rw [if_pos h3, if_pos h3]; split <;> simp <;> omega
 rw [if_neg h3, if_neg h3]
 by_cases h28 : op = 28
 ·rw [if_pos h28, if_pos h28]; split <;> simp <;> omega
 rw [if_neg h28, if_neg h28]
 by_cases h4 : op = 4 ∨ op = 5
 ·rw [if_pos h4, if_pos h4]
 rw [if_neg h4, if_neg h4]
 by_cases h6 : op = 6 ∨ op = 7
 ·rw [if_pos h6, if_pos h6]
 rw [if_neg h6, if_neg h6]
 simp [hA]
theorem use_other {cel slo op A : Int} {b : BL} (h1 : op ≠ 1) (h3 : op ≠ 3) (h28 : op ≠ 28) : (useStep cel slo op A b).2 = b := by
 unfold useStep
 rw [if_neg h1, if_neg h3, if_neg h28]
 split
 ·rfl
 ·split <;> rfl
def CodePost (r : Bool × BL) (nn nc np u g1 g2 g3 : Nat) (M : Int) (w : World) (e : Ending) (w' : World) : Prop :=
 e = .returned (.bool r.1) ∧ Fr w w' [g1, g2, g3] ∧ (r.1 = true → CntB nn nc np u g1 g2 g3 r.2 M w')
theorem day_step {cel slo : Int} {code : List S113} {k : Nat} {b : BL} {x : S113} (hk : k < code.length) (hx : code.getD k z113 = x) : dayRun cel slo code (code.length - k) k b = if (dayStep cel slo code.length k x b).1 = true then dayRun cel slo code (code.length - (k + 1)) (k + 1) (dayStep cel slo code.length k x b).2 else dayStep cel slo code.length k x b := by
 rw [show code.length - k = (code.length - (k + 1)) + 1 by omega]
 simp only [dayRun]
 rw [hx]
theorem code_calls (W0 : World) (A0 : Option Addr) (nn c0 : Nat) (A1 : Option Addr) (nc c1 : Nat) (A2 : Option Addr) (np c2 : Nat) (hor cel slo sta : Int) (v7 : Value) (CA : Option Addr) (cc' : Nat) (code : List S113) (u g1 g2 g3 : Nat) (b0 : BL) (M : Int) (w : World) (hM0 : 0 ≤ M) (hM : M ≤ 100000000000000000) (hC : Kd.C k113 W0 CA code.length code) (hF0 : Fr W0 w []) (hg : W0.heap.size ≤ g1 ∧ W0.heap.size ≤ g2 ∧ W0.heap.size ≤ g3) (hcl : code.length ≤ 10000000000000) (hB : CntB nn nc np u g1 g2 g3 b0 M w) (G : TabW W0) :
  Calls Tryz.prog 106 #[.agg #[.slice A0 nn c0, .slice A1 nc c1, .slice A2 np c2, .int .i64 hor, .int .i64 cel, .int .i64 slo, .int .i64 sta, v7], .slice CA code.length cc', .pointer (some ⟨u, 0, none⟩)] w (CodePost (dayU cel slo code b0) nn nc np u g1 g2 g3 (M + code.length) w) := by
 obtain ⟨R, hR⟩ : ∃ x, dayU cel slo code b0 = x := ⟨_, rfl⟩
 rw [hR]
 unfold dayU at hR
 have hup := Tryz.underlying26
 have huu := Tryz.underlying178
 have hui := Tryz.underlying113
 have HC := AsM hC
 have HF0 := AsM hF0
 have HB := AsM hB
 have HG := AsM G
 have HGG := AsM hg
 by_cases h2 : code.length < 2
 case pos =>
  have n1 : decide (code.length < 2) = true := by simpa using h2
  have n1i : decide ((code.length : Int) < 2) = true := by simp; omega
  rw [if_pos h2] at hR
  subst hR
  clear hC hF0 hB G hg
  go_enter Tryz.func106, Tryz.ntmps106
  go_wp2
  go_ret
  exact ⟨rfl, FQ, fun h => by cases h⟩
 case neg =>
 have n1 : decide (code.length < 2) = false := by simpa using h2
 have n1i : decide ((code.length : Int) < 2) = false := by simp; omega
 rw [if_neg h2] at hR
 have HR0 := AsM hR
 clear hC hF0 hB G hg hR h2
 go_enter Tryz.func106, Tryz.ntmps106
 go_upto_region 3 with fail
 refine name_ (fun V => Aside0 (Fr w V []) ∧ Aside0 (V.heap[w.heap.size]? = some (.cells #[.slice A0 nn c0, .slice A1 nc c1, .slice A2 np c2, .int .i64 hor, .int .i64 cel, .int .i64 slo, .int .i64 sta, v7] 26 (0, 0)))) ⟨⟨FQ⟩, ⟨blk_newN rfl⟩⟩ ?_
 rintro V1 ⟨HF1, HX1⟩
 have hg : g1 < w.heap.size ∧ g2 < w.heap.size ∧ g3 < w.heap.size ∧ u < w.heap.size := by
  obtain ⟨cn, cc, cp, hc, _⟩ := HB.out
  exact ⟨blk_lt hc.n1, blk_lt hc.n2, blk_lt hc.n3, blk_lt hc.blk⟩
 go_wp2
 go_loopg [7, 8] code.length (fun kq s7 s8 wr => ∃ (k : Nat) (b : BL), s7 = .int .i64 k ∧ k ≤ code.length ∧ Aside0 (code.length - k ≤ kq) ∧ Aside0 (Fr w wr [g1, g2, g3]) ∧ Aside0 (wr.heap[w.heap.size]? = some (.cells #[.slice A0 nn c0, .slice A1 nc c1, .slice A2 np c2, .int .i64 hor, .int .i64 cel, .int .i64 slo, .int .i64 sta, v7] 26 (0, 0))) ∧ Aside0 (CntB nn nc np u g1 g2 g3 b (M + k) wr) ∧ Aside0 (dayRun cel slo code (code.length - k) k b = R))
 case atStart => exact ⟨0, b0, rfl, Nat.zero_le _, ⟨Nat.le_refl _⟩, ⟨HF1.out.mono (by simp)⟩, HX1, ⟨by
  obtain ⟨cn, cc, cp, hc, h⟩ := HB.out
  exact ⟨cn, cc, cp, hc.fr HF1.out, by simpa using h⟩⟩, HR0⟩
 case round =>
  clear HF1 HX1 HB HR0
  obtain ⟨k, b, rfl, hk, HM, HF, HX, HCB, HR⟩ := hrel
  by_cases hkl : k < code.length
  case neg =>
   obtain rfl : k = code.length := by omega
   have n3 : decide (code.length < code.length) = false := by simp
   obtain rfl : (true, b) = R := by rw [← HR.out, Nat.sub_self]; rfl
   go_wp2
   go_ret
   exact ⟨rfl, HF.out, fun _ => HCB.out⟩
  case pos =>
  have n3 : decide (k < code.length) = true := by simpa using hkl
  have hfw : Fr W0 wr [] := HF0.out.trans HF.out (fun i hi => .inr (by have := HGG.out; simp at hi; omega))
  obtain ⟨cad, rfl, i0, i1, i2⟩ := instr_at (Kd.C_below HC.out hfw.below) k hkl
  obtain ⟨x, hx⟩ : ∃ x, code.getD k z113 = x := ⟨_, rfl⟩
  rw [hx] at i0 i1 i2
  have hr1 := HR.out
  rw [day_step hkl hx] at hr1
  unfold dayStep at hr1
  have HR1 := AsM hr1
  have HFW := AsM hfw
  obtain ⟨vv, hvv⟩ : ∃ y, validC x.f0 x.f1 x.f2 = y := ⟨_, rfl⟩
  have HVV := AsM hvv
  clear hx hr1 HR hfw hvv
  have HVA : Aside0 (∀ W, Fr wr W [] → Calls Tryz.prog 131 #[.agg #[.int .i64 x.f0, .int .i64 x.f1, .int .i64 x.f2]] W fun e w' => e = .returned (.int .i64 vv) ∧ Fr W w' []) := ⟨fun W hf => HVV.out ▸ rValid_calls x.f0 x.f1 x.f2 W (HG.out.fr0 (HFW.out.trans hf (by simp)))⟩
  have hw1 : IntKind.i64.wrap ((code.length : Int) - 1) = (code.length : Int) - 1 := by rw [i64_w]; unfold wrap64; omega
  have hwl := blk_lt HX.out
  by_cases hv0 : vv = 0
  case neg =>
   have n4 : (vv != 0) = true := by simpa using hv0
   have hr2 := HR1.out
   rw [HVV.out] at hr2
   obtain rfl : (false, b) = R := by rw [← hr2]; simp [hv0]
   clear hv0 hr2
   go_wp2_with (first | (go_at_call 131; (with_reducible refine (HVA.out _ ?_).mono ?_); (next => exact FQ); rintro e W2 ⟨rfl, hF2⟩; have HF2 : Aside0 (Fr wr W2 []) := ⟨Fr.trans (M := []) FQ hF2 (by simp)⟩; clear hF2))
   go_ret
   exact ⟨rfl, HF.out.trans (FX HF2.out) (by simp), fun h => by cases h⟩
  case pos =>
  subst hv0
  obtain ⟨o0, o1, o2, o3⟩ := valid_le HVV.out
  have hr2 := HR1.out
  rw [HVV.out] at hr2
  simp only [ne_eq, not_true_eq_false, if_false] at hr2
  obtain ⟨q, hq⟩ : ∃ q, (decide (x.f0 = 0) != decide (k + 1 = code.length)) = q := ⟨_, rfl⟩
  rw [hq] at hr2
  have hq2 : ((x.f0 == 0) != ((k : Int) == (code.length : Int) - 1)) = q := by
   rw [← hq]
   have e1 : (x.f0 == 0) = decide (x.f0 = 0) := by by_cases h : x.f0 = 0 <;> simp [h]
   have e2 : ((k : Int) == (code.length : Int) - 1) = decide (k + 1 = code.length) := by rw [Bool.eq_iff_iff]; simp; omega
   rw [e1, e2]
  have HR2 := AsM hr2
  clear hr2 hq HR1
  go_upto_region 7 with fail
  go_cut [35] (fun s35 wx => s35 = .bool q ∧ Aside0 (Fr wr wx []) ∧ Aside0 (wx.heap[wr.heap.size]? = some (.cells #[.int .i64 x.f0, .int .i64 x.f1, .int .i64 x.f2] 113 (0, 0))))
  case first =>
   obtain ⟨bA, hA⟩ : ∃ y, (x.f0 == 0) = y := ⟨_, rfl⟩
   obtain ⟨bB, hBB⟩ : ∃ y, ((k : Int) == (code.length : Int) - 1) = y := ⟨_, rfl⟩
   rw [hA, hBB] at hq2
   have HQ2 := AsM hq2
   clear hq2
   cases bA <;> cases bB
   all_goals (
    go_wp2_with (first | (go_at_call 131; (with_reducible refine (HVA.out _ ?_).mono ?_); (next => exact FQ); rintro e W2 ⟨rfl, hF2⟩; have HI2 := AsM (hF2.blk (g := wr.heap.size) (blk_newN rfl) (by simp)); have i2l := blk_lt HI2.out; have j0 := blk_cell HI2.out 0; have HF2 : Aside0 (Fr wr W2 []) := ⟨Fr.trans (M := []) FQ hF2 (by simp)⟩; clear hF2))
    go_meet
    exact ⟨by rw [← HQ2.out]; rfl, HF2, HI2⟩)
  case rest =>
  obtain ⟨rfl, HF2, HI2⟩ := hcut
  cases q
  case true =>
   have hr3 := HR2.out
   simp only [if_true] at hr3
   obtain rfl : (false, b) = R := by rw [← hr3]; simp
   clear hr3
   go_wp2
   go_ret
   exact ⟨rfl, HF.out.trans (FX HF2.out) (by simp), fun h => by cases h⟩
  case false =>
  have hr3 := HR2.out
  simp only [Bool.false_eq_true, if_false] at hr3
  have HR3 := AsM hr3
  clear hr3 HR2
  go_upto_region 9 with fail
  refine name_ (fun V => Aside0 (Fr wr V []) ∧ Aside0 (V.heap[w.heap.size]? = some (.cells #[.slice A0 nn c0, .slice A1 nc c1, .slice A2 np c2, .int .i64 hor, .int .i64 cel, .int .i64 slo, .int .i64 sta, v7] 26 (0, 0))) ∧ Aside0 (V.heap[wr.heap.size]? = some (.cells #[.int .i64 x.f0, .int .i64 x.f1, .int .i64 x.f2] 113 (0, 0)))) ⟨⟨HF2.out⟩, ⟨HF2.out.blk HX.out (by simp)⟩, ⟨HI2.out⟩⟩ ?_
  clear HF2 HI2 i0 i1 i2 hq2 hw1 HVA
  rintro V7 ⟨HF7, HX7, HI7⟩
  obtain ⟨cn, cc, cp, hcnt, hl1, hl2, hl3, hbe, hm1, hm2, hm3⟩ := HCB.out
  subst hbe
  obtain ⟨bd, hbd⟩ : ∃ y, boundR nn nc np cel slo x.f0 = y := ⟨_, rfl⟩
  have HUSE : Aside0 ((useStep cel slo x.f0 x.f1 (fl cn, fl cc, fl cp)).1 = decide (x.f1 < bd)) := ⟨by rw [use_bound o3, fl_len, fl_len, fl_len, hl1, hl2, hl3, hbd]⟩
  have HBO : Aside0 (∀ W, Calls Tryz.prog 132 #[.agg #[.slice A0 nn c0, .slice A1 nc c1, .slice A2 np c2, .int .i64 hor, .int .i64 cel, .int .i64 slo, .int .i64 sta, v7], .int .i64 x.f0] W fun e w' => e = .returned (.int .i64 bd) ∧ Fr W w' []) := ⟨fun W => hbd ▸ bound_calls A0 nn c0 A1 nc c1 A2 np c2 hor cel slo sta v7 x.f0 W⟩
  have HBD := AsM hbd
  have HLN := AsM (And.intro hl1 (And.intro hl2 hl3))
  have HBN := AsM (And.intro hm1 (And.intro hm2 hm3))
  have HCN := AsM hcnt
  clear hcnt hl1 hl2 hl3 hm1 hm2 hm3 hbd HCB
  refine start_ (n := 7) (S := fun w' => w'.cell? ⟨wr.heap.size, 0, none⟩ = some (.int .i64 x.f0) ∧ w'.cell? ⟨wr.heap.size, 1, none⟩ = some (.int .i64 x.f1) ∧ w'.cell? ⟨w.heap.size, 0, none⟩ = some (.slice A0 nn c0) ∧ w'.cell? ⟨w.heap.size, 1, none⟩ = some (.slice A1 nc c1) ∧ w'.cell? ⟨w.heap.size, 2, none⟩ = some (.slice A2 np c2) ∧ w'.cell? ⟨w.heap.size, 3, none⟩ = some (.int .i64 hor) ∧ w'.cell? ⟨w.heap.size, 4, none⟩ = some (.int .i64 cel) ∧ w'.cell? ⟨w.heap.size, 5, none⟩ = some (.int .i64 slo) ∧ w'.cell? ⟨w.heap.size, 6, none⟩ = some (.int .i64 sta) ∧ w'.cell? ⟨w.heap.size, 7, none⟩ = some (v7)) (ds := []) #[false, false, false, false, false, false, false] (by kernel_rfl) rfl rfl ⟨blk_cell HI7.out 0, blk_cell HI7.out 1, blk_cell HX7.out 0, blk_cell HX7.out 1, blk_cell HX7.out 2, blk_cell HX7.out 3, blk_cell HX7.out 4, blk_cell HX7.out 5, blk_cell HX7.out 6, blk_cell HX7.out 7⟩ (fun hHeld => ?_)
  refine pure_ (i := 0) (N := some 36) (v := ?_) (a' := ?_) #[true, false, false, false, false, false, false] rfl rfl (by kernel_rfl) (fun _ _ _ h => h) (Or.inl ⟨by rfl, ?_⟩) ?_ ?_
  rotate_left
  ·intro w'
   go_simp
   with_reducible rfl
  rotate_left
  ·simp only [Act.put, lS, lZ, lU, i64_w, i32_w]
   rfl
  refine take_ (i := 1) (N := some 37) (v := ?_) (a' := ?_) #[true, true, false, false, false, false, false] rfl rfl (by kernel_rfl) (fun _ _ _ h => h) (Or.inl ⟨by rfl, ?_⟩) hHeld ?_ ?_
  rotate_left
  ·rintro w' ⟨s0, s1, s2, s3, s4, s5, s6, s7, s8, s9⟩
   go_simp
   with_reducible rfl
  rotate_left
  ·simp only [Act.put, lS, lZ, lU, i64_w, i32_w]
   rfl
  refine take_ (i := 2) (N := some 38) (v := ?_) (a' := ?_) #[true, true, true, false, false, false, false] rfl rfl (by kernel_rfl) (fun _ _ _ h => h) (Or.inl ⟨by rfl, ?_⟩) hHeld ?_ ?_
  rotate_left
  ·rintro w' ⟨s0, s1, s2, s3, s4, s5, s6, s7, s8, s9⟩
   go_simp
   with_reducible rfl
  rotate_left
  ·simp only [Act.put, lS, lZ, lU, i64_w, i32_w]
   rfl
  refine pure_ (i := 3) (N := some 39) (v := ?_) (a' := ?_) #[true, true, true, true, false, false, false] rfl rfl (by kernel_rfl) (fun _ _ _ h => h) (Or.inl ⟨by rfl, ?_⟩) ?_ ?_
  rotate_left
  ·intro w'
   go_simp
   with_reducible rfl
  rotate_left
  ·simp only [Act.put, lS, lZ, lU, i64_w, i32_w]
   rfl
  refine take_ (i := 4) (N := some 40) (v := ?_) (a' := ?_) #[true, true, true, true, true, false, false] rfl rfl (by kernel_rfl) (fun _ _ _ h => h) (Or.inl ⟨by rfl, ?_⟩) hHeld ?_ ?_
  rotate_left
  ·rintro w' ⟨s0, s1, s2, s3, s4, s5, s6, s7, s8, s9⟩
   go_simp
   with_reducible rfl
  rotate_left
  ·simp only [Act.put, lS, lZ, lU, i64_w, i32_w]
   rfl
  refine one_ (i := 5) (N := some 41) #[true, true, true, true, true, true, false] rfl rfl (by kernel_rfl) (by decide) (fun K hK => ?_)
  refine goes_ (f := 132) Tryz.func132 (by rfl) (by rfl) #[.agg #[.slice A0 nn c0, .slice A1 nc c1, .slice A2 np c2, .int .i64 hor, .int .i64 cel, .int .i64 slo, .int .i64 sta, v7], .int .i64 x.f0] (by rfl) rfl rfl (by first | (go_simp; done) | (go_simp; rfl) | rfl) ?_
  refine (HBO.out _).mono ?_
  rintro e W8 ⟨rfl, hF8⟩
  have HI8 := AsM (hF8.blk (blk_drew HI7.out) (by simp))
  have HX8 := AsM (hF8.blk (blk_drew HX7.out) (by simp))
  have HF8 : Aside0 (Fr wr W8 []) := ⟨HF7.out.drew.trans hF8 (by simp)⟩
  refine ⟨_, rfl, hK.out _ _ ⟨blk_cell HI8.out 0, blk_cell HI8.out 1, blk_cell HX8.out 0, blk_cell HX8.out 1, blk_cell HX8.out 2, blk_cell HX8.out 3, blk_cell HX8.out 4, blk_cell HX8.out 5, blk_cell HX8.out 6, blk_cell HX8.out 7⟩ (fun hHeld => ?_)⟩
  clear hF8 hK K
  refine norm_ (a' := ?_) ?_ ?_
  rotate_left
  ·show Act.put _ (some 41) _ = _
   simp only [Act.put, lS, lZ, lU, i64_w, i32_w]
   rfl
  refine pure_ (i := 6) (N := some 42) (v := ?_) (a' := ?_) #[true, true, true, true, true, true, true] rfl rfl (by kernel_rfl) (fun _ _ _ h => h) (Or.inl ⟨by rfl, ?_⟩) ?_ ?_
  rotate_left
  ·intro w'
   go_simp
   with_reducible rfl
  rotate_left
  ·simp only [Act.put, lS, lZ, lU, i64_w, i32_w]
   rfl
  refine done_ (by kernel_rfl) ?_
  by_cases hge : bd ≤ x.f1
  case pos =>
   have n6 : decide (bd ≤ x.f1) = true := by simpa using hge
   rw [n6]
   have hr5 := HR3.out
   rw [if_neg (by rw [HUSE.out]; simp; omega)] at hr5
   have HRF : Aside0 (R.1 = false) := ⟨by rw [← hr5, HUSE.out]; simp; omega⟩
   clear hr5 hge HR3
   go_wp2
   go_ret
   exact ⟨by rw [HRF.out]; rfl, HF.out.trans (FX HF8.out) (by simp), fun h => by rw [HRF.out] at h; cases h⟩
  case neg =>
  have n6 : decide (bd ≤ x.f1) = false := by simpa using hge
  rw [n6]
  have HLT : Aside0 (x.f1 < bd) := ⟨by omega⟩
  have hr5 := HR3.out
  rw [if_pos (by rw [HUSE.out]; simp; omega)] at hr5
  have HR4 := AsM hr5
  clear hr5 hge HR3
  go_upto_region 11 with fail
  have hh8 := hHeld
  refine name_ (fun V => Aside0 (Fr wr V []) ∧ Aside0 (V.heap[w.heap.size]? = some (.cells #[.slice A0 nn c0, .slice A1 nc c1, .slice A2 np c2, .int .i64 hor, .int .i64 cel, .int .i64 slo, .int .i64 sta, v7] 26 (0, 0))) ∧ Aside0 (V.heap[wr.heap.size]? = some (.cells #[.int .i64 x.f0, .int .i64 x.f1, .int .i64 x.f2] 113 (0, 0))) ∧ Aside0 (Cnt V u g1 g2 g3 cn cc cp)) ⟨HF8, HX8, HI8, ⟨HCN.out.fr HF8.out⟩⟩ ?_
  clear hh8 hHeld HF8 HX8 HI8 HF7 HX7 HI7
  rintro V8 ⟨HF8, HX8, HI8, HC8⟩
  obtain ⟨v0, v1⟩ := cc2 HI8.out
  have hi8 := blk_lt HI8.out
  by_cases k1 : x.f0 = 1
  ·have e1 : (x.f0 == 1) = true := by simpa using k1
   obtain ⟨a, ha⟩ : ∃ a : Nat, x.f1 = a := ⟨x.f1.toNat, by omega⟩
   have hbd := HBD.out
   rw [show boundR nn nc np cel slo x.f0 = (cp.length : Int) by unfold boundR; rw [k1]; simp [HLN.out.1, HLN.out.2.1, HLN.out.2.2]] at hbd
   have hal : a < cp.length := by have := HLT.out; omega
   have hal2 : (a : Int) < cp.length := by omega
   obtain ⟨c, hc⟩ : ∃ c, cp[a]? = some c := ⟨_, List.getElem?_eq_getElem hal⟩
   have hcm := HBN.out.2.2 c (List.mem_of_getElem? hc)
   have u2 := blk_cell HC8.out.blk 2
   have t3 : V8.cell? ⟨g3, a, none⟩ = some (.int .i64 c) := (blk_cell HC8.out.n3 a).trans (icells_get _ a hc)
   have z3 := blk_frozen HC8.out.n3 a
   have ul := blk_lt HC8.out.blk
   obtain ⟨hc0, hc1⟩ := hcm
   have hr5 := HR4.out
   rw [show useStep cel slo x.f0 x.f1 (fl cn, fl cc, fl cp) = (true, (fl cn, fl cc, (fl cp).set a true)) by unfold useStep; rw [k1, ha]; simp [fl_len]; omega] at hr5
   have HR5 := AsM hr5
   clear hr5 hc hbd HR4 k1
   go_upto_region 13 with fail
   go_region
   go_wp2
   go_roundg (code.length - (k + 1))
   case measure => have := HM.out; omega
   case rel =>
    exact ⟨k + 1, _, by go_num, by omega, ⟨Nat.le_refl _⟩, ⟨by (with_reducible (repeat (first | exact Fr.refl _ _ | refine Fr.drew ?_ | refine Fr.drewN ?_ _ | refine Fr.alloc ?_ _ | refine Fr.setCell ?_ _ _ ?_))) <;> first | exact (HF.out.trans HF8.out (by simp)) | exact .inl (by simp)⟩, ⟨by first | exact at_far HX8.out (by simp; omega) _ | exact blk_drew (at_far HX8.out (by simp; omega) _) | exact at_far (blk_drew HX8.out) (by simp; omega) _⟩, ⟨⟨cn, cc, cp.set a (c + 1), by first | exact (HC8.out.set3 a (c + 1)).fr (Fr.refl _ []).drew | exact (HC8.out.fr (Fr.refl _ []).drew).set3 a (c + 1) | exact HC8.out.set3 a (c + 1), HLN.out.1, HLN.out.2.1, by rw [List.length_set]; exact HLN.out.2.2, rfl, le_mono HBN.out.1 (by omega), le_mono HBN.out.2.1 (by omega), by have := set_le (n := a) HBN.out.2.2 hc0 hc1; rw [show M + ((k + 1 : Nat) : Int) = M + (k : Int) + 1 by omega]; exact this⟩⟩, ⟨by rw [show ((fl cn, fl cc, fl (cp.set a (c + 1))) : BL) = (fl cn, fl cc, (fl cp).set a true) by rw [fl_set _ _ hc0]]; exact HR5.out⟩⟩
  have e1 : (x.f0 == 1) = false := by simpa using k1
  by_cases k3 : x.f0 = 3
  ·have e3 : (x.f0 == 3) = true := by simpa using k3
   obtain ⟨a, ha⟩ : ∃ a : Nat, x.f1 = a := ⟨x.f1.toNat, by omega⟩
   have hbd := HBD.out
   rw [show boundR nn nc np cel slo x.f0 = (cn.length : Int) by unfold boundR; rw [k3]; simp [HLN.out.1, HLN.out.2.1, HLN.out.2.2]] at hbd
   have hal : a < cn.length := by have := HLT.out; omega
   have hal2 : (a : Int) < cn.length := by omega
   obtain ⟨c, hc⟩ : ∃ c, cn[a]? = some c := ⟨_, List.getElem?_eq_getElem hal⟩
   have hcm := HBN.out.1 c (List.mem_of_getElem? hc)
   have u2 := blk_cell HC8.out.blk 0
   have t3 : V8.cell? ⟨g1, a, none⟩ = some (.int .i64 c) := (blk_cell HC8.out.n1 a).trans (icells_get _ a hc)
   have z3 := blk_frozen HC8.out.n1 a
   have ul := blk_lt HC8.out.blk
   obtain ⟨hc0, hc1⟩ := hcm
   have hr5 := HR4.out
   rw [show useStep cel slo x.f0 x.f1 (fl cn, fl cc, fl cp) = (true, ((fl cn).set a true, fl cc, fl cp)) by unfold useStep; rw [k3, ha]; simp [fl_len]; omega] at hr5
   have HR5 := AsM hr5
   clear hr5 hc hbd HR4 k3
   go_upto_region 15 with fail
   go_region
   go_wp2
   go_roundg (code.length - (k + 1))
   case measure => have := HM.out; omega
   case rel =>
    exact ⟨k + 1, _, by go_num, by omega, ⟨Nat.le_refl _⟩, ⟨by (with_reducible (repeat (first | exact Fr.refl _ _ | refine Fr.drew ?_ | refine Fr.drewN ?_ _ | refine Fr.alloc ?_ _ | refine Fr.setCell ?_ _ _ ?_))) <;> first | exact (HF.out.trans HF8.out (by simp)) | exact .inl (by simp)⟩, ⟨by first | exact at_far HX8.out (by simp; omega) _ | exact blk_drew (at_far HX8.out (by simp; omega) _) | exact at_far (blk_drew HX8.out) (by simp; omega) _⟩, ⟨⟨cn.set a (c + 1), cc, cp, by first | exact (HC8.out.set1 a (c + 1)).fr (Fr.refl _ []).drew | exact (HC8.out.fr (Fr.refl _ []).drew).set1 a (c + 1) | exact HC8.out.set1 a (c + 1), by rw [List.length_set]; exact HLN.out.1, HLN.out.2.1, HLN.out.2.2, rfl, by have := set_le (n := a) HBN.out.1 hc0 hc1; rw [show M + ((k + 1 : Nat) : Int) = M + (k : Int) + 1 by omega]; exact this, le_mono HBN.out.2.1 (by omega), le_mono HBN.out.2.2 (by omega)⟩⟩, ⟨by rw [show ((fl (cn.set a (c + 1)), fl cc, fl cp) : BL) = ((fl cn).set a true, fl cc, fl cp) by rw [fl_set _ _ hc0]]; exact HR5.out⟩⟩
  have e3 : (x.f0 == 3) = false := by simpa using k3
  by_cases k28 : x.f0 = 28
  ·have e28 : (x.f0 == 28) = true := by simpa using k28
   obtain ⟨a, ha⟩ : ∃ a : Nat, x.f1 = a := ⟨x.f1.toNat, by omega⟩
   have hbd := HBD.out
   rw [show boundR nn nc np cel slo x.f0 = (cc.length : Int) by unfold boundR; rw [k28]; simp [HLN.out.1, HLN.out.2.1, HLN.out.2.2]] at hbd
   have hal : a < cc.length := by have := HLT.out; omega
   have hal2 : (a : Int) < cc.length := by omega
   obtain ⟨c, hc⟩ : ∃ c, cc[a]? = some c := ⟨_, List.getElem?_eq_getElem hal⟩
   have hcm := HBN.out.2.1 c (List.mem_of_getElem? hc)
   have u2 := blk_cell HC8.out.blk 1
   have t3 : V8.cell? ⟨g2, a, none⟩ = some (.int .i64 c) := (blk_cell HC8.out.n2 a).trans (icells_get _ a hc)
   have z3 := blk_frozen HC8.out.n2 a
   have ul := blk_lt HC8.out.blk
   obtain ⟨hc0, hc1⟩ := hcm
   have hr5 := HR4.out
   rw [show useStep cel slo x.f0 x.f1 (fl cn, fl cc, fl cp) = (true, (fl cn, (fl cc).set a true, fl cp)) by unfold useStep; rw [k28, ha]; simp [fl_len]; omega] at hr5
   have HR5 := AsM hr5
   clear hr5 hc hbd HR4 k28
   go_upto_region 17 with fail
   go_region
   go_wp2
   go_roundg (code.length - (k + 1))
   case measure => have := HM.out; omega
   case rel =>
    exact ⟨k + 1, _, by go_num, by omega, ⟨Nat.le_refl _⟩, ⟨by (with_reducible (repeat (first | exact Fr.refl _ _ | refine Fr.drew ?_ | refine Fr.drewN ?_ _ | refine Fr.alloc ?_ _ | refine Fr.setCell ?_ _ _ ?_))) <;> first | exact (HF.out.trans HF8.out (by simp)) | exact .inl (by simp)⟩, ⟨by first | exact at_far HX8.out (by simp; omega) _ | exact blk_drew (at_far HX8.out (by simp; omega) _) | exact at_far (blk_drew HX8.out) (by simp; omega) _⟩, ⟨⟨cn, cc.set a (c + 1), cp, by first | exact (HC8.out.set2 a (c + 1)).fr (Fr.refl _ []).drew | exact (HC8.out.fr (Fr.refl _ []).drew).set2 a (c + 1) | exact HC8.out.set2 a (c + 1), HLN.out.1, by rw [List.length_set]; exact HLN.out.2.1, HLN.out.2.2, rfl, le_mono HBN.out.1 (by omega), by have := set_le (n := a) HBN.out.2.1 hc0 hc1; rw [show M + ((k + 1 : Nat) : Int) = M + (k : Int) + 1 by omega]; exact this, le_mono HBN.out.2.2 (by omega)⟩⟩, ⟨by rw [show ((fl cn, fl (cc.set a (c + 1)), fl cp) : BL) = (fl cn, (fl cc).set a true, fl cp) by rw [fl_set _ _ hc0]]; exact HR5.out⟩⟩
  have e28 : (x.f0 == 28) = false := by simpa using k28
  have hr5 := HR4.out
  rw [use_other k1 k3 k28] at hr5
  have HR5 := AsM hr5
  clear hr5 k1 k3 k28 HR4
  go_wp2
  go_roundg (code.length - (k + 1))
  case measure => have := HM.out; omega
  case rel => exact ⟨k + 1, _, by go_num, by omega, ⟨Nat.le_refl _⟩, ⟨HF.out.trans HF8.out (by simp)⟩, HX8, ⟨⟨cn, cc, cp, HC8.out, HLN.out.1, HLN.out.2.1, HLN.out.2.2, rfl, le_mono HBN.out.1 (by omega), le_mono HBN.out.2.1 (by omega), le_mono HBN.out.2.2 (by omega)⟩⟩, HR5⟩
end Go.Proofs.YtpoehkacfmljcaaGreatDoor.H
