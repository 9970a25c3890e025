/- image: rising lists; lists. -/
import Derived.Test.YtmfbdmjgkcijcaaDoorZV
import Derived.Test.YtmfbdmjgkcijcaaDoorZHI
import Derived.WalkLawsBesides
namespace Go.Proofs.YtmfbdmjgkcijcaaDoor.H
open Go.RowKit Go.Proofs.YtmfbdmjgkcijcaaDoorW.PrintWords Go.Proofs.YtmfbdmjgkcijcaaDoorW.PrintLast Go.Proofs.YtmfbdmjgkcijcaaDoorW.PrintMore
open Go.ChangeMaps (setBlock)
attribute [local go_sem] max2_int min2_int max_two min_two max_three min_three max_four min_four
set_option linter.unusedVariables false
set_option linter.unusedSimpArgs false
open Go.Proofs.YtmfbdmjgkcijcaaDoor.M
def lessS (a b : ByteArray) : Bool := Op.bytesLess a.toList b.toList
def risingS (l : List ByteArray) : Bool := (List.range (l.length - 1)).all fun i => lessS (l.getD i ByteArray.empty) (l.getD (i + 1) ByteArray.empty)
def risingI (l : List Int) : Bool := (List.range (l.length - 1)).all fun i => decide (l.getD i 0 < l.getD (i + 1) 0)
theorem less_tri : ∀ x y : List UInt8, (Op.bytesLess x y || x == y) = !Op.bytesLess y x
  | [], [] => by simp [Op.bytesLess]
  | [], _ :: _ => by simp [Op.bytesLess]
  | _ :: _, [] => by simp [Op.bytesLess]
  | a :: x, b :: y => by
    have ih := less_tri x y
    simp only [Op.bytesLess]
    by_cases h : a = b
    · subst h
      simpa using ih
    · rcases UInt8.lt_or_lt_of_ne h with h1 | h1
      · have : ¬ b < a := fun h2 => absurd (UInt8.lt_asymm h1 h2) (by simp)
        simp [h, Ne.symm h, h1, this]
      · have : ¬ a < b := fun h2 => absurd (UInt8.lt_asymm h1 h2) (by simp)
        simp [h, Ne.symm h, h1, this]
theorem str_at {w : World} {A : Option Addr} {n : Nat} {xs : List ByteArray} (h : Kd.C Kd.string w A n xs) (k : Nat) (hk : k < n) : ∃ ad, A = some ad ∧ w.cell? (ad.add k) = some (.string (xs.getD k ByteArray.empty)) := by
  obtain ⟨ad, e, hc⟩ := ReadsOf.at_ (enc := Value.string) (d := ByteArray.empty) (Kd.reads_of_C h) (k : Int) (by omega) (by omega)
  exact ⟨ad, e, by simpa [rdOf] using hc⟩
set_option maxHeartbeats 4000000 in
set_option maxRecDepth 100000 in
theorem risingS_calls (A : Option Addr) (c : Nat) (l : List ByteArray) (w : World) (hC : Kd.C Kd.string w A l.length l) (hc : l.length ≤ c) :
    Calls Tryd.prog 61 #[.slice A l.length c] w fun e w' => e = .returned (.bool (risingS l)) ∧ Drawn0 w w' := by
  have HC := Aside0.mk hC
  have hl63 := Kd.C_max hC
  clear hC
  go_enter Tryd.func61, Tryd.ntmps61
  go_wp2
  go_loopg [3] l.length (fun kq x wr => ∃ j : Nat, x = .int .i64 ((j : Int) + 1) ∧ Aside0 (l.length - j ≤ kq) ∧ Aside0 (j + 1 ≤ l.length ∨ j = 0) ∧ Drawn0 w wr ∧ Aside0 (∀ i, i < j → lessS (l.getD i ByteArray.empty) (l.getD (i + 1) ByteArray.empty) = true))
  case atStart => exact ⟨0, rfl, ⟨by omega⟩, ⟨by omega⟩, DQ, ⟨fun j hj => by omega⟩⟩
  case round =>
    obtain ⟨j, rfl, HM, HK, ⟨nk, rfl⟩, HA⟩ := hrel
    by_cases hkl : j + 1 < l.length
    · have p0 : (0 : Int) ≤ (j : Int) + 1 := by omega
      have p1 : (j : Int) + 1 < l.length := by omega
      have p2 : ((j : Int) + 1).toNat = j + 1 := by omega
      have p3 : IntKind.i64.wrap (j : Int) = j := by rw [IntKind.wrap_i64]; omega
      have n3 : decide ((j : Int) + 1 < l.length) = true := by simpa using p1
      obtain ⟨ad, rfl, h1⟩ := str_at HC.out (j + 1) hkl
      obtain ⟨ad2, he, h0⟩ := str_at HC.out j (by omega)
      cases he
      obtain ⟨x, hx⟩ : ∃ x, l.getD (j + 1) ByteArray.empty = x := ⟨_, rfl⟩
      obtain ⟨y, hy⟩ : ∃ y, l.getD j ByteArray.empty = y := ⟨_, rfl⟩
      rw [hx] at h1
      rw [hy] at h0
      have h1 : w.cell? ⟨ad.block, ad.off + (j + 1), none⟩ = some (.string x) := by simpa [Addr.add] using h1
      have HX := Aside0.mk hx
      have HY := Aside0.mk hy
      have q0 : (0 : Int) ≤ (j : Int) := by omega
      have q1 : (j : Int) < l.length := by omega
      clear hx hy
      go_wp2
      go_region_held3 (fun w' => w'.cell? ⟨ad.block, ad.off + (j + 1), none⟩ = some (.string x) ∧ w'.cell? (ad.add j) = some (.string y)) (first | exact ⟨h1, h0⟩ | go_keep) (fail)
      go_wp2
      · rename_i h9
        have h8 : lessS y x = false := by
          have h7 := less_tri x.toList y.toList
          have h6 : (Op.bytesLess x.toList y.toList || x.toList == y.toList) = true := by rw [Bool.or_eq_true]; exact h9
          rw [h6] at h7
          simpa [lessS] using h7.symm
        have e : risingS l = false := by
          unfold risingS
          rw [List.all_eq_false]
          exact ⟨j, List.mem_range.2 (by omega), by rw [HX.out, HY.out, h8]; simp⟩
        go_ret
        exact ⟨by rw [e]; rfl, DQ⟩
      · rename_i h9
        have h8 : lessS y x = true := by
          have h7 := less_tri x.toList y.toList
          rw [h9.1, h9.2] at h7
          simpa [lessS] using h7.symm
        go_roundg (l.length - (j + 1))
        case measure => have := HM.out; omega
        case rel =>
          refine ⟨j + 1, by go_num, ⟨Nat.le_refl _⟩, ⟨.inl (by omega)⟩, DQ, ⟨fun i hi => ?_⟩⟩
          rcases Nat.lt_or_ge i j with h | h
          · exact HA.out i h
          · obtain rfl : i = j := by omega
            rw [HX.out, HY.out]; exact h8
    · have n3 : decide ((j : Int) + 1 < l.length) = false := by simp; omega
      have e : risingS l = true := by
        unfold risingS
        rw [List.all_eq_true]
        intro i hi
        have := List.mem_range.1 hi
        exact HA.out i (by have := HK.out; omega)
      go_wp2
      go_ret
      exact ⟨by rw [e]; rfl, DQ⟩
/-- rising over numbers. -/
theorem risingI_f (l : List Int) (hl : l.length ≤ 100000000000000) : ∃ k, image_rising_int.f k l = some (risingI l) := by
  have h : ∀ (d k j : Nat), l.length - (j + 1) ≤ d → d < k → (j + 1 ≤ l.length ∨ j = 0) → (∀ i, i < j → l.getD i 0 < l.getD (i + 1) 0) → image_rising_int.l0 k l ((j : Int) + 1) = some (risingI l) := by
    intro d
    induction d with
    | zero =>
      intro k j hd hk hj hA
      obtain ⟨k, rfl⟩ : ∃ m, k = m + 1 := ⟨k - 1, by omega⟩
      simp only [image_rising_int.l0]
      rw [if_neg (by omega)]
      have e : risingI l = true := by
        unfold risingI
        rw [List.all_eq_true]
        intro i hi
        have := List.mem_range.1 hi
        simpa using hA i (by omega)
      rw [e]
    | succ d ih =>
      intro k j hd hk hj hA
      obtain ⟨k, rfl⟩ : ∃ m, k = m + 1 := ⟨k - 1, by omega⟩
      by_cases hlt : j + 1 < l.length
      · simp only [image_rising_int.l0]
        have e1 : wrap64 ((j : Int) + 1 - 1) = j := by unfold wrap64; omega
        have e2 : wrap64 ((j : Int) + 1 + 1) = ((j + 1 : Nat) : Int) + 1 := by unfold wrap64; omega
        have r1 : rd l ((j : Int) + 1) = l.getD (j + 1) 0 := by unfold rd; rw [show ((j : Int) + 1).toNat = j + 1 by omega]
        have r2 : rd l (j : Int) = l.getD j 0 := by unfold rd; rw [Int.toNat_natCast]
        rw [if_pos (by omega), if_pos (by omega), e1, if_pos (by omega), if_pos (by omega), r1, r2, e2]
        by_cases hc : l.getD (j + 1) 0 ≤ l.getD j 0
        · rw [if_pos hc]
          have e : risingI l = false := by
            unfold risingI
            rw [List.all_eq_false]
            exact ⟨j, List.mem_range.2 (by omega), by simpa using hc⟩
          rw [e]
        · rw [if_neg hc]
          refine ih k (j + 1) (by omega) (by omega) (.inl (by omega)) (fun i hi => ?_)
          rcases Nat.lt_or_ge i j with h | h
          · exact hA i h
          · obtain rfl : i = j := by omega
            omega
      · simp only [image_rising_int.l0]
        rw [if_neg (by omega)]
        have e : risingI l = true := by
          unfold risingI
          rw [List.all_eq_true]
          intro i hi
          have := List.mem_range.1 hi
          simpa using hA i (by omega)
        rw [e]
  exact ⟨l.length + 1, h l.length (l.length + 1) 0 (by omega) (by omega) (.inr rfl) (fun i hi => by omega)⟩
set_option maxHeartbeats 4000000 in
set_option maxRecDepth 100000 in
theorem lists1_calls (s : ByteArray) (w : World) : Calls Tryd.prog 64 #[.string s] w fun e w' => e = .returned (.bool (!namedB s)) ∧ Drawn0 w w' := by
  obtain ⟨b, hb⟩ : ∃ b, namedB s = b := ⟨_, rfl⟩
  have HN : Aside0 (∀ w, Calls Tryd.prog 65 #[.string s] w fun e w' => e = .returned (.bool b) ∧ Drawn0 w w') := ⟨fun w => hb ▸ capital_calls s w⟩
  rw [hb]
  clear hb
  cases b
  all_goals (
    go_enter Tryd.func64, Tryd.ntmps64
    go_wp2_with (first | (go_at_call 65; (refine (HN.out _).mono ?_); rintro e w' ⟨rfl, ⟨nd, rfl⟩⟩))
    go_ret
    exact ⟨rfl, DQ⟩)
set_option maxHeartbeats 4000000 in
set_option maxRecDepth 100000 in
theorem indexS1_calls (A : Option Addr) (c : Nat) (l : List ByteArray) (w : World) (hC : Kd.C Kd.string w A l.length l) (hc : l.length ≤ c) :
    Calls Tryd.prog 83 #[.slice A l.length c, .func (Fn.func 64) #[] #[]] w fun e w' => (∃ i : Int, e = .returned (.int .i64 i) ∧ (0 ≤ i ↔ l.any (fun s => !namedB s) = true)) ∧ Drawn0 w w' := by
  have HC := Aside0.mk hC
  have hl63 := Kd.C_max hC
  have HF := Aside0.mk (show ∀ s b, (!namedB s) = b → ∀ w, Calls Tryd.prog 64 #[.string s] w fun e w' => e = .returned (.bool b) ∧ Drawn0 w w' from fun s b h w => h ▸ lists1_calls s w)
  clear hC
  go_enter Tryd.func83, Tryd.ntmps83
  go_wp2
  go_loopg [8] l.length (fun kq x wr => ∃ k : Nat, x = .int .i64 k ∧ k ≤ l.length ∧ Aside0 (l.length - k ≤ kq) ∧ Drawn0 w wr ∧ Aside0 ((l.take k).any (fun s => !namedB s) = false))
  case atStart => exact ⟨0, rfl, Nat.zero_le _, ⟨Nat.le_refl _⟩, DQ, ⟨rfl⟩⟩
  case round =>
    obtain ⟨k, rfl, hk, HM, ⟨nk, rfl⟩, HA⟩ := hrel
    by_cases hkl : k < l.length
    · have n3 : decide (k < l.length) = true := by simpa using hkl
      have p0 : (0 : Int) ≤ (k : Int) := by omega
      have p1 : (k : Int) < l.length := by omega
      obtain ⟨ad, rfl, h1⟩ := str_at HC.out k hkl
      obtain ⟨x, hx⟩ : ∃ x, l.getD k ByteArray.empty = x := ⟨_, rfl⟩
      rw [hx] at h1
      have hxm : l[k]? = some x := by rw [List.getD_eq_getElem?_getD, List.getElem?_eq_getElem hkl] at hx; rw [List.getElem?_eq_getElem hkl]; simpa using hx
      have HX := Aside0.mk hxm
      clear hx hxm
      cases hb : (!namedB x)
      · have HB := Aside0.mk hb
        clear hb
        go_wp2_with (first | (go_at_call 64; (refine (HF.out x false HB.out _).mono ?_); rintro e w' ⟨rfl, ⟨nd, rfl⟩⟩))
        go_roundg (l.length - (k + 1))
        case measure => have := HM.out; omega
        case rel =>
          refine ⟨k + 1, by go_num, by omega, ⟨Nat.le_refl _⟩, DQ, ⟨?_⟩⟩
          rw [List.take_add_one, List.any_append, HA.out, HX.out]
          simp [HB.out]
      · have HB := Aside0.mk hb
        clear hb
        go_wp2_with (first | (go_at_call 64; (refine (HF.out x true HB.out _).mono ?_); rintro e w' ⟨rfl, ⟨nd, rfl⟩⟩))
        go_ret
        exact ⟨⟨k, rfl, iff_of_true p0 (List.any_eq_true.2 ⟨x, List.mem_of_getElem? HX.out, HB.out⟩)⟩, DQ⟩
    · obtain rfl : k = l.length := by omega
      have n3 : decide (l.length < l.length) = false := by simp
      have ha := HA.out
      rw [List.take_length] at ha
      have HA2 := Aside0.mk ha
      clear ha HA
      go_wp2
      go_ret
      exact ⟨⟨-1, rfl, iff_of_false (by decide) (by rw [HA2.out]; decide)⟩, DQ⟩
set_option maxHeartbeats 4000000 in
set_option maxRecDepth 100000 in
theorem containsS1_calls (A : Option Addr) (c : Nat) (l : List ByteArray) (w : World) (hC : Kd.C Kd.string w A l.length l) (hc : l.length ≤ c) (b : Bool) (hb : l.any (fun s => !namedB s) = b) :
    Calls Tryd.prog 63 #[.slice A l.length c, .func (Fn.func 64) #[] #[]] w fun e w' => e = .returned (.bool b) ∧ Drawn0 w w' := by
  have HI := Aside0.mk (indexS1_calls A c l w hC hc)
  have HB := Aside0.mk hb
  clear hC hb
  go_enter Tryd.func63, Tryd.ntmps63
  go_wp2_with (first | (go_at_call 83; (refine (HI.out).mono ?_); rintro e w' ⟨⟨i, rfl, hi⟩, ⟨nd, rfl⟩⟩; have HIF := Aside0.mk hi; clear hi))
  go_ret
  refine ⟨?_, DQ⟩
  have h1 := HIF.out
  rw [HB.out] at h1
  cases b
  · have h2 : decide (0 ≤ i) = false := by simpa using h1
    simp [h2]
  · have h2 : decide (0 ≤ i) = true := by simpa using h1
    simp [h2]
set_option maxHeartbeats 4000000 in
set_option maxRecDepth 100000 in
theorem lists2_calls (s : ByteArray) (w : World) : Calls Tryd.prog 66 #[.string s] w fun e w' => e = .returned (.bool (!curB s)) ∧ Drawn0 w w' := by
  obtain ⟨b, hb⟩ : ∃ b, curB s = b := ⟨_, rfl⟩
  have HN : Aside0 (∀ w, Calls Tryd.prog 67 #[.string s] w fun e w' => e = .returned (.bool b) ∧ Drawn0 w w') := ⟨fun w => hb ▸ currency_calls s w⟩
  rw [hb]
  clear hb
  cases b
  all_goals (
    go_enter Tryd.func66, Tryd.ntmps66
    go_wp2_with (first | (go_at_call 67; (refine (HN.out _).mono ?_); rintro e w' ⟨rfl, ⟨nd, rfl⟩⟩))
    go_ret
    exact ⟨rfl, DQ⟩)
set_option maxHeartbeats 4000000 in
set_option maxRecDepth 100000 in
theorem indexS2_calls (A : Option Addr) (c : Nat) (l : List ByteArray) (w : World) (hC : Kd.C Kd.string w A l.length l) (hc : l.length ≤ c) :
    Calls Tryd.prog 83 #[.slice A l.length c, .func (Fn.func 66) #[] #[]] w fun e w' => (∃ i : Int, e = .returned (.int .i64 i) ∧ (0 ≤ i ↔ l.any (fun s => !curB s) = true)) ∧ Drawn0 w w' := by
  have HC := Aside0.mk hC
  have hl63 := Kd.C_max hC
  have HF := Aside0.mk (show ∀ s b, (!curB s) = b → ∀ w, Calls Tryd.prog 66 #[.string s] w fun e w' => e = .returned (.bool b) ∧ Drawn0 w w' from fun s b h w => h ▸ lists2_calls s w)
  clear hC
  go_enter Tryd.func83, Tryd.ntmps83
  go_wp2
  go_loopg [8] l.length (fun kq x wr => ∃ k : Nat, x = .int .i64 k ∧ k ≤ l.length ∧ Aside0 (l.length - k ≤ kq) ∧ Drawn0 w wr ∧ Aside0 ((l.take k).any (fun s => !curB s) = false))
  case atStart => exact ⟨0, rfl, Nat.zero_le _, ⟨Nat.le_refl _⟩, DQ, ⟨rfl⟩⟩
  case round =>
    obtain ⟨k, rfl, hk, HM, ⟨nk, rfl⟩, HA⟩ := hrel
    by_cases hkl : k < l.length
    · have n3 : decide (k < l.length) = true := by simpa using hkl
      have p0 : (0 : Int) ≤ (k : Int) := by omega
      have p1 : (k : Int) < l.length := by omega
      obtain ⟨ad, rfl, h1⟩ := str_at HC.out k hkl
      obtain ⟨x, hx⟩ : ∃ x, l.getD k ByteArray.empty = x := ⟨_, rfl⟩
      rw [hx] at h1
      have hxm : l[k]? = some x := by rw [List.getD_eq_getElem?_getD, List.getElem?_eq_getElem hkl] at hx; rw [List.getElem?_eq_getElem hkl]; simpa using hx
      have HX := Aside0.mk hxm
      clear hx hxm
      cases hb : (!curB x)
      · have HB := Aside0.mk hb
        clear hb
        go_wp2_with (first | (go_at_call 66; (refine (HF.out x false HB.out _).mono ?_); rintro e w' ⟨rfl, ⟨nd, rfl⟩⟩))
        go_roundg (l.length - (k + 1))
        case measure => have := HM.out; omega
        case rel =>
          refine ⟨k + 1, by go_num, by omega, ⟨Nat.le_refl _⟩, DQ, ⟨?_⟩⟩
          rw [List.take_add_one, List.any_append, HA.out, HX.out]
          simp [HB.out]
      · have HB := Aside0.mk hb
        clear hb
        go_wp2_with (first | (go_at_call 66; (refine (HF.out x true HB.out _).mono ?_); rintro e w' ⟨rfl, ⟨nd, rfl⟩⟩))
        go_ret
        exact ⟨⟨k, rfl, iff_of_true p0 (List.any_eq_true.2 ⟨x, List.mem_of_getElem? HX.out, HB.out⟩)⟩, DQ⟩
    · obtain rfl : k = l.length := by omega
      have n3 : decide (l.length < l.length) = false := by simp
      have ha := HA.out
      rw [List.take_length] at ha
      have HA2 := Aside0.mk ha
      clear ha HA
      go_wp2
      go_ret
      exact ⟨⟨-1, rfl, iff_of_false (by decide) (by rw [HA2.out]; decide)⟩, DQ⟩
set_option maxHeartbeats 4000000 in
set_option maxRecDepth 100000 in
theorem containsS2_calls (A : Option Addr) (c : Nat) (l : List ByteArray) (w : World) (hC : Kd.C Kd.string w A l.length l) (hc : l.length ≤ c) (b : Bool) (hb : l.any (fun s => !curB s) = b) :
    Calls Tryd.prog 63 #[.slice A l.length c, .func (Fn.func 66) #[] #[]] w fun e w' => e = .returned (.bool b) ∧ Drawn0 w w' := by
  have HI := Aside0.mk (indexS2_calls A c l w hC hc)
  have HB := Aside0.mk hb
  clear hC hb
  go_enter Tryd.func63, Tryd.ntmps63
  go_wp2_with (first | (go_at_call 83; (refine (HI.out).mono ?_); rintro e w' ⟨⟨i, rfl, hi⟩, ⟨nd, rfl⟩⟩; have HIF := Aside0.mk hi; clear hi))
  go_ret
  refine ⟨?_, DQ⟩
  have h1 := HIF.out
  rw [HB.out] at h1
  cases b
  · have h2 : decide (0 ≤ i) = false := by simpa using h1
    simp [h2]
  · have h2 : decide (0 ≤ i) = true := by simpa using h1
    simp [h2]
end Go.Proofs.YtmfbdmjgkcijcaaDoor.H
