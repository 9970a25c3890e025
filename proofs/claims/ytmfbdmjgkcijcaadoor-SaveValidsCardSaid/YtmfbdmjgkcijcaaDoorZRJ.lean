/- The reference's lists. -/
import Derived.Test.YtmfbdmjgkcijcaaDoorZV
import Derived.Test.YtmfbdmjgkcijcaaDoorZRI
import Derived.Test.YtmfbdmjgkcijcaaDoorZHN
namespace Go.Proofs.YtmfbdmjgkcijcaaDoor.H
open Go.RowKit Go.Proofs.YtmfbdmjgkcijcaaDoorW.PrintWords Go.Proofs.YtmfbdmjgkcijcaaDoorW.PrintLast Go.Proofs.YtmfbdmjgkcijcaaDoorW.PrintMore
open Go.ChangeMaps (setBlock)
attribute [local go_sem] max2_int min2_int max_two min_two max_three min_three max_four min_four
set_option linter.unusedVariables false
set_option linter.unusedSimpArgs false
open Go.Proofs.YtmfbdmjgkcijcaaDoor.M
set_option maxHeartbeats 4000000 in
set_option maxRecDepth 100000 in
theorem rRising_calls (A : Option Addr) (c : Nat) (l : List ByteArray) (w : World) (hC : Kd.C Kd.string w A l.length l) (hc : l.length ≤ c) :
    Calls Tryd.prog 52 #[.slice A l.length c] w fun e w' => e = .returned (.bool (risingS l)) ∧ Drawn0 w w' := by
  have HC := Aside0.mk hC
  have hl63 := Kd.C_max hC
  clear hC
  go_enter Tryd.func52, Tryd.ntmps52
  go_wp2
  go_loopg [3] l.length (fun kq x wr => ∃ j : Nat, x = .int .i64 ((j : Int) + 1) ∧ Aside0 (l.length - j ≤ kq) ∧ Aside0 (j + 1 ≤ l.length ∨ j = 0) ∧ Drawn0 w wr ∧ Aside0 (∀ i, i < j → lessS (l.getD i ByteArray.empty) (l.getD (i + 1) ByteArray.empty) = true))
  case atStart => exact ⟨0, rfl, ⟨by omega⟩, ⟨by omega⟩, DQ, ⟨fun j hj => by omega⟩⟩
  case round =>
    obtain ⟨j, rfl, HM, HK, ⟨nk, rfl⟩, HA⟩ := hrel
    by_cases hkl : j + 1 < l.length
    · have p0 : (0 : Int) ≤ (j : Int) + 1 := by omega
      have p1 : (j : Int) + 1 < l.length := by omega
      have p2 : ((j : Int) + 1).toNat = j + 1 := by omega
      have p3 : IntKind.i64.wrap (j : Int) = j := by rw [IntKind.wrap_i64]; omega
      have n3 : decide ((j : Int) + 1 < l.length) = true := by simpa using p1
      obtain ⟨ad, rfl, h1⟩ := str_at HC.out (j + 1) hkl
      obtain ⟨ad2, he, h0⟩ := str_at HC.out j (by omega)
      cases he
      obtain ⟨x, hx⟩ : ∃ x, l.getD (j + 1) ByteArray.empty = x := ⟨_, rfl⟩
      obtain ⟨y, hy⟩ : ∃ y, l.getD j ByteArray.empty = y := ⟨_, rfl⟩
      rw [hx] at h1
      rw [hy] at h0
      have h1 : w.cell? ⟨ad.block, ad.off + (j + 1), none⟩ = some (.string x) := by simpa [Addr.add] using h1
      have HX := Aside0.mk hx
      have HY := Aside0.mk hy
      have q0 : (0 : Int) ≤ (j : Int) := by omega
      have q1 : (j : Int) < l.length := by omega
      clear hx hy
      go_wp2
      go_region_held3 (fun w' => w'.cell? ⟨ad.block, ad.off + (j + 1), none⟩ = some (.string x) ∧ w'.cell? (ad.add j) = some (.string y)) (first | exact ⟨h1, h0⟩ | go_keep) (fail)
      go_wp2
      · rename_i h9
        have h8 : lessS y x = false := by simpa [lessS] using h9
        have e : risingS l = false := by
          unfold risingS
          rw [List.all_eq_false]
          exact ⟨j, List.mem_range.2 (by omega), by rw [HX.out, HY.out, h8]; simp⟩
        go_ret
        exact ⟨by rw [e]; rfl, DQ⟩
      · rename_i h9
        have h8 : lessS y x = true := by simpa [lessS] using h9
        go_roundg (l.length - (j + 1))
        case measure => have := HM.out; omega
        case rel =>
          refine ⟨j + 1, by go_num, ⟨Nat.le_refl _⟩, ⟨.inl (by omega)⟩, DQ, ⟨fun i hi => ?_⟩⟩
          rcases Nat.lt_or_ge i j with h | h
          · exact HA.out i h
          · obtain rfl : i = j := by omega
            rw [HX.out, HY.out]; exact h8
    · have n3 : decide ((j : Int) + 1 < l.length) = false := by simp; omega
      have e : risingS l = true := by
        unfold risingS
        rw [List.all_eq_true]
        intro i hi
        have := List.mem_range.1 hi
        exact HA.out i (by have := HK.out; omega)
      go_wp2
      go_ret
      exact ⟨by rw [e]; rfl, DQ⟩
set_option maxHeartbeats 4000000 in
set_option maxRecDepth 100000 in
theorem rWithin12_calls (n most : Int) (b : Bool) (hb : withinB n most = b) (w : World) : Calls Tryd.prog 38 #[.int .i64 n, .int .i64 most] w fun e w' => e = .returned (.bool b) ∧ Drawn0 w w' := by
  subst hb
  by_cases h : 0 ≤ n <;> by_cases h2 : n ≤ most
  all_goals (
    have e : withinB n most = withinB n most := rfl
    go_enter Tryd.func38, Tryd.ntmps38
    go_wp2
    go_ret
    exact ⟨by simp [withinB, h, h2], DQ⟩)
theorem any_snoc {α : Type} (p : α → Bool) (l : List α) {k : Nat} {x : α} (hx : l[k]? = some x) (h : (l.take k).any p = false) (hp : p x = false) : (l.take (k + 1)).any p = false := by
  rw [List.take_add_one, hx, List.any_append, h]
  simp [hp]
theorem getD_get {α : Type} {l : List α} {k : Nat} {d x : α} (hk : k < l.length) (hx : l.getD k d = x) : l[k]? = some x := by
  rw [List.getD_eq_getElem?_getD, List.getElem?_eq_getElem hk] at hx
  rw [List.getElem?_eq_getElem hk]
  simpa using hx
set_option maxHeartbeats 4000000 in
set_option maxRecDepth 100000 in
theorem rLists_calls (A0 : Option Addr) (c0 : Nat) (names : List ByteArray) (A1 : Option Addr) (c1 : Nat) (curs : List ByteArray) (A2 : Option Addr) (c2 : Nat) (pool : List Int) (hor cel slo sta : Int) (v7 : Value) (w : World) (hr0 : Kd.C Kd.string w A0 names.length names) (hc0 : names.length ≤ c0) (hr1 : Kd.C Kd.string w A1 curs.length curs) (hc1 : curs.length ≤ c1) (hr2 : Kd.C (Kd.int .i64) w A2 pool.length pool) (hsz : ∀ s ∈ names, s.size ≤ 9223372036854775806) :
    Calls Tryd.prog 36 #[.agg #[.slice A0 names.length c0, .slice A1 curs.length c1, .slice A2 pool.length c2, .int .i64 hor, .int .i64 cel, .int .i64 slo, .int .i64 sta, v7]] w (MayPost (listsB names curs pool hor cel slo sta) w) := by
  have hup := Tryd.underlying26
  have HC0 := Aside0.mk hr0
  have HC1 := Aside0.mk hr1
  have HC2 := Aside0.mk hr2
  have HSZ := Aside0.mk hsz
  obtain ⟨bn1, hn1⟩ : ∃ b, decide ((64 : Int) < (names.length : Int)) = b := ⟨_, rfl⟩
  obtain ⟨bn2, hn2⟩ : ∃ b, decide ((4096 : Int) < (curs.length : Int)) = b := ⟨_, rfl⟩
  obtain ⟨bn3, hn3⟩ : ∃ b, decide ((16384 : Int) < (pool.length : Int)) = b := ⟨_, rfl⟩
  obtain ⟨br1, hR1⟩ : ∃ b, risingS names = b := ⟨_, rfl⟩
  obtain ⟨br2, hR2⟩ : ∃ b, risingS curs = b := ⟨_, rfl⟩
  obtain ⟨br3, hR3⟩ : ∃ b, risingI pool = b := ⟨_, rfl⟩
  obtain ⟨bq1, hq1⟩ : ∃ b, names.any (fun s => !namedB s) = b := ⟨_, rfl⟩
  obtain ⟨bq2, hq2⟩ : ∃ b, curs.any (fun s => !curB s) = b := ⟨_, rfl⟩
  obtain ⟨bw1, hw1⟩ : ∃ b, withinB hor 3660 = b := ⟨_, rfl⟩
  obtain ⟨bw2, hw2⟩ : ∃ b, withinB cel 32768 = b := ⟨_, rfl⟩
  obtain ⟨bw3, hw3⟩ : ∃ b, withinB slo 16384 = b := ⟨_, rfl⟩
  obtain ⟨bw4, hw4⟩ : ∃ b, withinB sta 16384 = b := ⟨_, rfl⟩
  have hN : listsB names curs pool hor cel slo sta = (!bn1 && !bn2 && !bn3 && br1 && br2 && br3 && !bq1 && !bq2 && bw1 && bw2 && bw3 && bw4) := by unfold listsB; rw [hn1, hn2, hn3, hR1, hR2, hR3, hq1, hq2, hw1, hw2, hw3, hw4]
  have HRA : Aside0 (∀ W, Fr w W [] → Calls Tryd.prog 52 #[.slice A0 names.length c0] W fun e w' => e = .returned (.bool br1) ∧ Drawn0 W w') := ⟨fun W hf => hR1 ▸ rRising_calls A0 c0 names W (Kd.C_below hr0 hf.below) hc0⟩
  have HRB : Aside0 (∀ W, Fr w W [] → Calls Tryd.prog 52 #[.slice A1 curs.length c1] W fun e w' => e = .returned (.bool br2) ∧ Drawn0 W w') := ⟨fun W hf => hR2 ▸ rRising_calls A1 c1 curs W (Kd.C_below hr1 hf.below) hc1⟩
  have HW1 : Aside0 (∀ W, Calls Tryd.prog 38 #[.int .i64 hor, .int .i64 3660] W fun e w' => e = .returned (.bool bw1) ∧ Drawn0 W w') := ⟨fun W => rWithin12_calls hor 3660 bw1 hw1 W⟩
  have HW2 : Aside0 (∀ W, Calls Tryd.prog 38 #[.int .i64 cel, .int .i64 32768] W fun e w' => e = .returned (.bool bw2) ∧ Drawn0 W w') := ⟨fun W => rWithin12_calls cel 32768 bw2 hw2 W⟩
  have HW3 : Aside0 (∀ W, Calls Tryd.prog 38 #[.int .i64 slo, .int .i64 16384] W fun e w' => e = .returned (.bool bw3) ∧ Drawn0 W w') := ⟨fun W => rWithin12_calls slo 16384 bw3 hw3 W⟩
  have HW4 : Aside0 (∀ W, Calls Tryd.prog 38 #[.int .i64 sta, .int .i64 16384] W fun e w' => e = .returned (.bool bw4) ∧ Drawn0 W w') := ⟨fun W => rWithin12_calls sta 16384 bw4 hw4 W⟩
  have HR3 := Aside0.mk hR3
  have HQ1 := Aside0.mk hq1
  have HQ2 := Aside0.mk hq2
  rw [hN]
  have hm1 : (bn1 = false → names.length ≤ 64) := fun h => by subst h; have h9 : ¬ ((64 : Int) < (names.length : Int)) := of_decide_eq_false hn1; omega
  have hm2 : (bn2 = false → curs.length ≤ 4096) := fun h => by subst h; have h9 : ¬ ((4096 : Int) < (curs.length : Int)) := of_decide_eq_false hn2; omega
  have hm3 : (bn3 = false → pool.length ≤ 16384) := fun h => by subst h; have h9 : ¬ ((16384 : Int) < (pool.length : Int)) := of_decide_eq_false hn3; omega
  have hx1 : decide (64 < names.length) = bn1 := by rw [← hn1]; exact decide_eq_decide.2 (by omega)
  have hx2 : decide (4096 < curs.length) = bn2 := by rw [← hn2]; exact decide_eq_decide.2 (by omega)
  have hx3 : decide (16384 < pool.length) = bn3 := by rw [← hn3]; exact decide_eq_decide.2 (by omega)
  have HM := Aside0.mk (And.intro hm1 (And.intro hm2 hm3))
  clear hr0 hr1 hr2 hsz hR1 hR2 hR3 hq1 hq2 hw1 hw2 hw3 hw4 hN hm1 hm2 hm3
  have hcs : (br1 = false ∨ (br1 = true ∧ br2 = false) ∨ (br1 = true ∧ br2 = true ∧ bn1 = true) ∨ (br1 = true ∧ br2 = true ∧ bn1 = false ∧ bn2 = true) ∨ (br1 = true ∧ br2 = true ∧ bn1 = false ∧ bn2 = false ∧ bn3 = true)) ∨ (br1 = true ∧ br2 = true ∧ bn1 = false ∧ bn2 = false ∧ bn3 = false) := by cases br1 <;> cases br2 <;> cases bn1 <;> cases bn2 <;> cases bn3 <;> decide
  rcases hcs with hcs | ⟨rfl, rfl, rfl, rfl, rfl⟩
  · rcases hcs with rfl | ⟨rfl, rfl⟩ | ⟨rfl, rfl, rfl⟩ | ⟨rfl, rfl, rfl, rfl⟩ | ⟨rfl, rfl, rfl, rfl, rfl⟩
    all_goals (
      go_enter Tryd.func36, Tryd.ntmps36
      go_wp2_with (first | (go_at_call 52; (with_reducible refine (HRA.out _ ?_).mono ?_); (next => exact FQ); rintro e w' ⟨rfl, ⟨nd, rfl⟩⟩) | (go_at_call 52; (with_reducible refine (HRB.out _ ?_).mono ?_); (next => exact FQ); rintro e w' ⟨rfl, ⟨nd2, rfl⟩⟩))
      go_ret
      exact ⟨by simp, FQ⟩)
  obtain ⟨hm1, hm2, hm3⟩ := HM.out
  have hm1 := hm1 rfl
  have hm2 := hm2 rfl
  have hm3 := hm3 rfl
  clear HM
  go_enter Tryd.func36, Tryd.ntmps36
  go_upto_region 5 with (first | (go_at_call 52; (with_reducible refine (HRA.out _ ?_).mono ?_); (next => exact FQ); rintro e w' ⟨rfl, ⟨nd, rfl⟩⟩) | (go_at_call 52; (with_reducible refine (HRB.out _ ?_).mono ?_); (next => exact FQ); rintro e w' ⟨rfl, ⟨nd2, rfl⟩⟩))
  refine name_ (fun V => Aside0 (Fr w V []) ∧ Aside0 (V.heap[w.heap.size]? = some (.cells #[.slice A0 names.length c0, .slice A1 curs.length c1, .slice A2 pool.length c2, .int .i64 hor, .int .i64 cel, .int .i64 slo, .int .i64 sta, v7] 26 (0, 0)))) ⟨⟨FQ⟩, ⟨by first | exact blk_drewN (blk_drewN (blk_newN rfl) _) _ | exact blk_drewN (blk_newN rfl) _⟩⟩ ?_
  clear HRA HRB hx1 hx2 hx3 hn1 hn2 hn3
  rintro V1 ⟨HF1, HX1⟩
  have x0 := blk_cell HX1.out 0
  go_wp2
  go_loopg [5, 6] names.length (fun kq s5 s6 wr => ∃ k : Nat, s5 = .int .i64 k ∧ k ≤ names.length ∧ Aside0 (names.length - k ≤ kq) ∧ Aside0 (Fr w wr []) ∧ Aside0 (wr.heap[w.heap.size]? = some (.cells #[.slice A0 names.length c0, .slice A1 curs.length c1, .slice A2 pool.length c2, .int .i64 hor, .int .i64 cel, .int .i64 slo, .int .i64 sta, v7] 26 (0, 0))) ∧ Aside0 ((names.take k).any (fun s => !namedB s) = false))
  case atStart => exact ⟨0, rfl, Nat.zero_le _, ⟨Nat.le_refl _⟩, HF1, HX1, ⟨rfl⟩⟩
  case round =>
    clear x0 HF1 HX1
    obtain ⟨k, rfl, hk, HM, HF, HX, HA⟩ := hrel
    have x0 := blk_cell HX.out 0
    by_cases hkl : k < names.length
    · have n3 : decide (k < names.length) = true := by simpa using hkl
      obtain ⟨ad, rfl, h1⟩ := str_at (Kd.C_below HC0.out HF.out.below) k hkl
      obtain ⟨s, hs⟩ : ∃ s, names.getD k ByteArray.empty = s := ⟨_, rfl⟩
      rw [hs] at h1
      have hsm := getD_get hkl hs
      have HSM := Aside0.mk hsm
      obtain ⟨bb, hbb⟩ : ∃ b, namedB s = b := ⟨_, rfl⟩
      have HCA : Aside0 (Calls Tryd.prog 53 #[.string s] wr (MayPost bb wr)) := ⟨hbb ▸ rCapital_calls s (HSZ.out s (List.mem_of_getElem? hsm)) wr⟩
      have HBB := Aside0.mk hbb
      clear hs hsm hbb
      cases bb with
      | true =>
        go_wp2_with (first | (go_at_call 53; (refine (HCA.out).mono ?_); rintro e W2 ⟨rfl, hF2⟩; have HX2 := Aside0.mk (hF2.blk HX.out (by simp)); have HF2 := Aside0.mk (HF.out.trans hF2 (by simp)); clear hF2))
        go_roundg (names.length - (k + 1))
        case measure => have := HM.out; omega
        case rel => exact ⟨k + 1, by go_num, by omega, ⟨Nat.le_refl _⟩, HF2, HX2, ⟨any_snoc _ _ HSM.out HA.out (by rw [HBB.out]; rfl)⟩⟩
      | false =>
        go_wp2_with (first | (go_at_call 53; (refine (HCA.out).mono ?_); rintro e W2 ⟨rfl, hF2⟩; have HF2 := Aside0.mk (HF.out.trans hF2 (by simp)); clear hF2))
        go_ret
        obtain rfl : true = bq1 := by rw [← HQ1.out]; exact (List.any_eq_true.2 ⟨s, List.mem_of_getElem? HSM.out, by rw [HBB.out]; rfl⟩).symm
        exact ⟨by simp, HF2.out⟩
    · obtain rfl : k = names.length := by omega
      have n3 : decide (names.length < names.length) = false := by simp
      have hA := HA.out
      rw [List.take_length, HQ1.out] at hA
      subst hA
      clear HQ1 HC0 HSZ
      go_upto_region 11 with fail
      have x1 := blk_cell HX.out 1
      clear x0 n3 hk HM HA hkl
      go_wp2
      obtain ⟨wo, hwo⟩ : ∃ wo : World, wo = wr := ⟨_, rfl⟩
      go_loopg [7, 8] curs.length (fun kq s7 s8 wr => ∃ k : Nat, s7 = .int .i64 k ∧ k ≤ curs.length ∧ Aside0 (curs.length - k ≤ kq) ∧ Drawn0 wo wr ∧ Aside0 ((curs.take k).any (fun s => !curB s) = false))
      case atStart => exact ⟨0, rfl, Nat.zero_le _, ⟨Nat.le_refl _⟩, by rw [hwo]; exact Drawn0.refl _, ⟨rfl⟩⟩
      case round =>
      subst hwo
      obtain ⟨k, rfl, hk, HM, ⟨nk, rfl⟩, HA⟩ := hrel
      by_cases hkl : k < curs.length
      · have n3 : decide (k < curs.length) = true := by simpa using hkl
        obtain ⟨ad, rfl, h1⟩ := str_at (Kd.C_below HC1.out HF.out.below) k hkl
        obtain ⟨s, hs⟩ : ∃ s, curs.getD k ByteArray.empty = s := ⟨_, rfl⟩
        rw [hs] at h1
        have hsm := getD_get hkl hs
        have HSM := Aside0.mk hsm
        obtain ⟨bb, hbb⟩ : ∃ b, curB s = b := ⟨_, rfl⟩
        have HCA : Aside0 (∀ W, Calls Tryd.prog 54 #[.string s] W fun e w' => e = .returned (.bool bb) ∧ Drawn0 W w') := ⟨fun W => hbb ▸ rCurrency_calls s W⟩
        have HBB := Aside0.mk hbb
        clear hs hsm hbb
        cases bb with
        | true =>
          go_wp2_with (first | (go_at_call 54; (refine (HCA.out _).mono ?_); rintro e w' ⟨rfl, ⟨nd, rfl⟩⟩))
          go_roundg (curs.length - (k + 1))
          case measure => have := HM.out; omega
          case rel => exact ⟨k + 1, by go_num, by omega, ⟨Nat.le_refl _⟩, DQ, ⟨any_snoc _ _ HSM.out HA.out (by rw [HBB.out]; rfl)⟩⟩
        | false =>
          go_wp2_with (first | (go_at_call 54; (refine (HCA.out _).mono ?_); rintro e w' ⟨rfl, ⟨nd, rfl⟩⟩))
          go_ret
          obtain rfl : true = bq2 := by rw [← HQ2.out]; exact (List.any_eq_true.2 ⟨s, List.mem_of_getElem? HSM.out, by rw [HBB.out]; rfl⟩).symm
          exact ⟨by simp, by (with_reducible (repeat (first | exact Fr.refl _ _ | refine Fr.drew ?_ | refine Fr.drewN ?_ _ | refine Fr.alloc ?_ _ | refine Fr.setCell ?_ _ _ ?_))); exact HF.out⟩
      · obtain rfl : k = curs.length := by omega
        have n3 : decide (curs.length < curs.length) = false := by simp
        have hA := HA.out
        rw [List.take_length, HQ2.out] at hA
        subst hA
        clear HQ2 HC1
        go_upto_region 17 with fail
        refine name_ (fun V => Aside0 (Fr w V []) ∧ Aside0 (V.heap[w.heap.size]? = some (.cells #[.slice A0 names.length c0, .slice A1 curs.length c1, .slice A2 pool.length c2, .int .i64 hor, .int .i64 cel, .int .i64 slo, .int .i64 sta, v7] 26 (0, 0)))) ⟨⟨by (with_reducible (repeat (first | exact Fr.refl _ _ | refine Fr.drew ?_ | refine Fr.drewN ?_ _ | refine Fr.alloc ?_ _ | refine Fr.setCell ?_ _ _ ?_))); exact HF.out⟩, ⟨blk_drewN HX.out _⟩⟩ ?_
        clear x1 n3 hk HM HA hkl HF HX
        rintro V2 ⟨HF, HX⟩
        have x2 := blk_cell HX.out 2
        have HC2' := Aside0.mk (Kd.C_below HC2.out HF.out.below)
        go_wp2
        go_loopg [9] pool.length (fun kq x wr => ∃ j : Nat, x = .int .i64 ((j : Int) + 1) ∧ Aside0 (pool.length - j ≤ kq) ∧ Aside0 (j + 1 ≤ pool.length ∨ j = 0) ∧ Drawn0 V2 wr ∧ Aside0 (∀ i, i < j → pool.getD i 0 < pool.getD (i + 1) 0))
        case atStart => exact ⟨0, rfl, ⟨by omega⟩, ⟨by omega⟩, DQ, ⟨fun j hj => by omega⟩⟩
        case round =>
        obtain ⟨j, rfl, HM, HK, ⟨nk2, rfl⟩, HA⟩ := hrel
        by_cases hkl : j + 1 < pool.length
        · have p0 : (0 : Int) ≤ (j : Int) + 1 := by omega
          have p1 : (j : Int) + 1 < pool.length := by omega
          have p2 : ((j : Int) + 1).toNat = j + 1 := by omega
          have p3 : IntKind.i64.wrap (j : Int) = j := by rw [IntKind.wrap_i64]; omega
          have n3 : decide ((j : Int) + 1 < pool.length) = true := by simpa using p1
          obtain ⟨ad, rfl, h1⟩ := int_at HC2'.out (j + 1) hkl
          obtain ⟨ad2, he, h0⟩ := int_at HC2'.out j (by omega)
          cases he
          obtain ⟨x, hx⟩ : ∃ x, pool.getD (j + 1) 0 = x := ⟨_, rfl⟩
          obtain ⟨y, hy⟩ : ∃ y, pool.getD j 0 = y := ⟨_, rfl⟩
          rw [hx] at h1
          rw [hy] at h0
          have h1 : V2.cell? ⟨ad.block, ad.off + (j + 1), none⟩ = some (.int .i64 x) := by simpa [Addr.add] using h1
          have HXY := Aside0.mk (And.intro hx hy)
          have q0 : (0 : Int) ≤ (j : Int) := by omega
          have q1 : (j : Int) < pool.length := by omega
          clear hx hy
          by_cases hxy : y < x
          · have n5 : decide (x ≤ y) = false := by simp; omega
            have HXL := Aside0.mk hxy
            clear hxy
            go_upto_region 20 with fail
            go_quiet (fail)
            go_wp2
            go_roundg (pool.length - (j + 1))
            case measure => have := HM.out; omega
            case rel =>
              refine ⟨j + 1, by go_num, ⟨Nat.le_refl _⟩, ⟨.inl (by omega)⟩, DQ, ⟨fun i hi => ?_⟩⟩
              rcases Nat.lt_or_ge i j with h | h
              · exact HA.out i h
              · obtain rfl : i = j := by omega
                rw [HXY.out.1, HXY.out.2]; exact HXL.out
          · have n5 : decide (x ≤ y) = true := by simp; omega
            have HXL := Aside0.mk hxy
            clear hxy
            go_upto_region 20 with fail
            go_quiet (fail)
            go_wp2
            go_ret
            obtain rfl : false = br3 := by
              rw [← HR3.out]
              unfold risingI
              exact (List.all_eq_false.2 ⟨j, List.mem_range.2 (by omega), by rw [HXY.out.1, HXY.out.2]; simpa using HXL.out⟩).symm
            exact ⟨by simp, by (with_reducible (repeat (first | exact Fr.refl _ _ | refine Fr.drew ?_ | refine Fr.drewN ?_ _ | refine Fr.alloc ?_ _ | refine Fr.setCell ?_ _ _ ?_))); exact HF.out⟩
        · have n3 : decide ((j : Int) + 1 < pool.length) = false := by simp; omega
          obtain rfl : true = br3 := by
            rw [← HR3.out]
            unfold risingI
            refine (List.all_eq_true.2 fun i hi => ?_).symm
            have h7 := List.mem_range.1 hi
            have h8 := HA.out i (by have := HK.out; omega)
            simpa using h8
          clear HR3
          go_upto_region 22 with fail
          have x3 := blk_cell HX.out 3
          have x4 := blk_cell HX.out 4
          have x5 := blk_cell HX.out 5
          have x6 := blk_cell HX.out 6
          go_upto_region 26 with (first | (go_at_call 38; (with_reducible refine (HW1.out _).mono ?_); rintro e w' ⟨rfl, ⟨nd5, rfl⟩⟩) | (go_at_call 38; (with_reducible refine (HW2.out _).mono ?_); rintro e w' ⟨rfl, ⟨nd6, rfl⟩⟩) | (go_at_call 38; (with_reducible refine (HW3.out _).mono ?_); rintro e w' ⟨rfl, ⟨nd7, rfl⟩⟩) | (go_at_call 38; (with_reducible refine (HW4.out _).mono ?_); rintro e w' ⟨rfl, ⟨nd8, rfl⟩⟩))
          cases bw1 <;> cases bw2 <;> cases bw3
          all_goals (
            go_wp2
            go_ret
            exact ⟨by simp, by (with_reducible (repeat (first | exact Fr.refl _ _ | refine Fr.drew ?_ | refine Fr.drewN ?_ _ | refine Fr.alloc ?_ _ | refine Fr.setCell ?_ _ _ ?_))); exact HF.out⟩)
end Go.Proofs.YtmfbdmjgkcijcaaDoor.H
