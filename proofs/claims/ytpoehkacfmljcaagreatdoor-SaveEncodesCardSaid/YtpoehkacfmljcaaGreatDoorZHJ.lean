/- image: rising lists; lists. -/
import Derived.Test.YtpoehkacfmljcaaGreatDoorZV
import Derived.Test.YtpoehkacfmljcaaGreatDoorZRA
import Derived.WalkLawsBesides
set_option maxHeartbeats 4000000
set_option maxRecDepth 100000
namespace Go.Proofs.YtpoehkacfmljcaaGreatDoor.H
open Go.RowKit Go.Proofs.YtpoehkacfmljcaaGreatDoorW.PrintWords Go.Proofs.YtpoehkacfmljcaaGreatDoorW.PrintLast Go.Proofs.YtpoehkacfmljcaaGreatDoorW.PrintMore
open Go.ChangeMaps (setBlock)
attribute [local go_sem] max2_int min2_int max_two min_two max_three min_three max_four min_four
set_option linter.unusedVariables false
set_option linter.unusedSimpArgs false
open Go.Proofs.YtpoehkacfmljcaaGreatDoor.M
def lessS (a b : ByteArray) : Bool := Op.bytesLess a.toList b.toList
def risingS (l : List ByteArray) : Bool := (List.range (l.length - 1)).all fun i => lessS (l.getD i ByteArray.empty) (l.getD (i + 1) ByteArray.empty)
def risingI (l : List Int) : Bool := (List.range (l.length - 1)).all fun i => decide (l.getD i 0 < l.getD (i + 1) 0)
theorem less_tri : ∀ x y : List UInt8, (Op.bytesLess x y || x == y) = !Op.bytesLess y x
 | [], [] => by simp [Op.bytesLess]
 | [], _ :: _ => by simp [Op.bytesLess]
 | _ :: _, [] => by simp [Op.bytesLess]
 | a :: x, b :: y => by
  have ih := less_tri x y
  simp only [Op.bytesLess]
  by_cases h : a = b
  ·subst h
   simpa using ih
  ·rcases UInt8.lt_or_lt_of_ne h with h1 | h1
   ·have : ¬ b < a := fun h2 => absurd (UInt8.lt_asymm h1 h2) (by simp)
    simp [h, Ne.symm h, h1, this]
   ·have : ¬ a < b := fun h2 => absurd (UInt8.lt_asymm h1 h2) (by simp)
    simp [h, Ne.symm h, h1, this]
theorem str_at {w : World} {A : Option Addr} {n : Nat} {xs : List ByteArray} (h : Kd.C Kd.string w A n xs) (k : Nat) (hk : k < n) : ∃ ad, A = some ad ∧ w.cell? (ad.add k) = some (.string (xs.getD k ByteArray.empty)) := by
 obtain ⟨ad, e, hc⟩ := ReadsOf.at_ (enc := Value.string) (d := ByteArray.empty) (Kd.reads_of_C h) (k : Int) (by omega) (by omega)
 exact ⟨ad, e, by simpa [rdOf] using hc⟩
theorem risingS_calls (A : Option Addr) (c : Nat) (l : List ByteArray) (w : World) (hC : Kd.C Kd.string w A l.length l) (hc : l.length ≤ c) :
  Calls Tryz.prog 84 #[.slice A l.length c] w fun e w' => e = .returned (.bool (risingS l)) ∧ Drawn0 w w' := by
 have HC := AsM hC
 have hl63 := Kd.C_max hC
 clear hC
 go_enter Tryz.func84, Tryz.ntmps84
 go_wp2
 go_loopg [3] l.length (fun kq x wr => ∃ j : Nat, x = .int .i64 ((j : Int) + 1) ∧ Aside0 (l.length - j ≤ kq) ∧ Aside0 (j + 1 ≤ l.length ∨ j = 0) ∧ Drawn0 w wr ∧ Aside0 (∀ i, i < j → lessS (l.getD i ByteArray.empty) (l.getD (i + 1) ByteArray.empty) = true))
 case atStart => exact ⟨0, rfl, ⟨by omega⟩, ⟨by omega⟩, DQ, ⟨fun j hj => by omega⟩⟩
 case round =>
  obtain ⟨j, rfl, HM, HK, ⟨nk, rfl⟩, HA⟩ := hrel
  by_cases hkl : j + 1 < l.length
  ·have p0 : (0 : Int) ≤ (j : Int) + 1 := by omega
   have p1 : (j : Int) + 1 < l.length := by omega
   have p2 : ((j : Int) + 1).toNat = j + 1 := by omega
   have p3 : IntKind.i64.wrap (j : Int) = j := by rw [IntKind.wrap_i64]; omega
   have n3 : decide ((j : Int) + 1 < l.length) = true := by simpa using p1
   obtain ⟨ad, rfl, h1⟩ := str_at HC.out (j + 1) hkl
   obtain ⟨ad2, he, h0⟩ := str_at HC.out j (by omega)
   cases he
   obtain ⟨x, hx⟩ : ∃ x, l.getD (j + 1) ByteArray.empty = x := ⟨_, rfl⟩
   obtain ⟨y, hy⟩ : ∃ y, l.getD j ByteArray.empty = y := ⟨_, rfl⟩
   rw [hx] at h1
   rw [hy] at h0
   have h1 : w.cell? ⟨ad.block, ad.off + (j + 1), none⟩ = some (.string x) := by simpa [Addr.add] using h1
   have HX := AsM hx
   have HY := AsM hy
   have q0 : (0 : Int) ≤ (j : Int) := by omega
   have q1 : (j : Int) < l.length := by omega
   clear hx hy
   go_wp2
   go_region_held3 (fun w' => w'.cell? ⟨ad.block, ad.off + (j + 1), none⟩ = some (.string x) ∧ w'.cell? (ad.add j) = some (.string y)) (first | exact ⟨h1, h0⟩ | go_keep) (fail)
   go_wp2
   ·rename_i h9
    have h8 : lessS y x = false := by
     have h7 := less_tri x.toList y.toList
     have h6 : (Op.bytesLess x.toList y.toList || x.toList == y.toList) = true := by rw [Bool.or_eq_true]; exact h9
     rw [h6] at h7
     simpa [lessS] using h7.symm
    have e : risingS l = false := by
     unfold risingS
     rw [List.all_eq_false]
     exact ⟨j, List.mem_range.2 (by omega), by rw [HX.out, HY.out, h8]; simp⟩
    go_ret
    exact ⟨by rw [e]; rfl, DQ⟩
   ·rename_i h9
    have h8 : lessS y x = true := by
     have h7 := less_tri x.toList y.toList
     rw [h9.1, h9.2] at h7
     simpa [lessS] using h7.symm
    go_roundg (l.length - (j + 1))
    case measure => have := HM.out; omega
    case rel =>
     refine ⟨j + 1, by go_num, ⟨Nat.le_refl _⟩, ⟨.inl (by omega)⟩, DQ, ⟨fun i hi => ?_⟩⟩
     rcases Nat.lt_or_ge i j with h | h
     ·exact HA.out i h
     ·obtain rfl : i = j := by omega
      rw [HX.out, HY.out]; exact h8
  ·have n3 : decide ((j : Int) + 1 < l.length) = false := by simp; omega
   have e : risingS l = true := by
    unfold risingS
    rw [List.all_eq_true]
    intro i hi
    have := List.mem_range.1 hi
    exact HA.out i (by have := HK.out; omega)
   go_wp2
   go_ret
   exact ⟨by rw [e]; rfl, DQ⟩
theorem int_at {w : World} {A : Option Addr} {n : Nat} {xs : List Int} (h : Kd.C (Kd.int .i64) w A n xs) (k : Nat) (hk : k < n) : ∃ ad, A = some ad ∧ w.cell? (ad.add k) = some (.int .i64 (xs.getD k 0)) := by
 obtain ⟨ad, e, hc⟩ := ReadsOf.at_ (enc := Value.int .i64) (d := (0 : Int)) (Kd.reads_of_C h) (k : Int) (by omega) (by omega)
 exact ⟨ad, e, by simpa [rdOf] using hc⟩
theorem risingI_calls (A : Option Addr) (c : Nat) (l : List Int) (w : World) (hC : Kd.C (Kd.int .i64) w A l.length l) (hc : l.length ≤ c) :
  Calls Tryz.prog 85 #[.slice A l.length c] w fun e w' => e = .returned (.bool (risingI l)) ∧ Drawn0 w w' := by
 have HC := AsM hC
 have hl63 := Kd.C_max hC
 clear hC
 go_enter Tryz.func85, Tryz.ntmps85
 go_wp2
 go_loopg [3] l.length (fun kq x wr => ∃ j : Nat, x = .int .i64 ((j : Int) + 1) ∧ Aside0 (l.length - j ≤ kq) ∧ Aside0 (j + 1 ≤ l.length ∨ j = 0) ∧ Drawn0 w wr ∧ Aside0 (∀ i, i < j → l.getD i 0 < l.getD (i + 1) 0))
 case atStart => exact ⟨0, rfl, ⟨by omega⟩, ⟨by omega⟩, DQ, ⟨fun j hj => by omega⟩⟩
 case round =>
  obtain ⟨j, rfl, HM, HK, ⟨nk, rfl⟩, HA⟩ := hrel
  by_cases hkl : j + 1 < l.length
  ·have p0 : (0 : Int) ≤ (j : Int) + 1 := by omega
   have p1 : (j : Int) + 1 < l.length := by omega
   have p2 : ((j : Int) + 1).toNat = j + 1 := by omega
   have p3 : IntKind.i64.wrap (j : Int) = j := by rw [IntKind.wrap_i64]; omega
   have n3 : decide ((j : Int) + 1 < l.length) = true := by simpa using p1
   obtain ⟨ad, rfl, h1⟩ := int_at HC.out (j + 1) hkl
   obtain ⟨ad2, he, h0⟩ := int_at HC.out j (by omega)
   cases he
   obtain ⟨x, hx⟩ : ∃ x, l.getD (j + 1) 0 = x := ⟨_, rfl⟩
   obtain ⟨y, hy⟩ : ∃ y, l.getD j 0 = y := ⟨_, rfl⟩
   rw [hx] at h1
   rw [hy] at h0
   have h1 : w.cell? ⟨ad.block, ad.off + (j + 1), none⟩ = some (.int .i64 x) := by simpa [Addr.add] using h1
   have HX := AsM hx
   have HY := AsM hy
   have q0 : (0 : Int) ≤ (j : Int) := by omega
   have q1 : (j : Int) < l.length := by omega
   clear hx hy
   go_wp2
   go_region_held3 (fun w' => w'.cell? ⟨ad.block, ad.off + (j + 1), none⟩ = some (.int .i64 x) ∧ w'.cell? (ad.add j) = some (.int .i64 y)) (first | exact ⟨h1, h0⟩ | go_keep) (fail)
   by_cases hxy : x ≤ y
   ·have n4 : decide (x ≤ y) = true := decide_eq_true hxy
    have e : risingI l = false := by
     unfold risingI
     rw [List.all_eq_false]
     exact ⟨j, List.mem_range.2 (by omega), by rw [HX.out, HY.out]; simpa using hxy⟩
    go_wp2
    go_ret
    exact ⟨by rw [e]; rfl, DQ⟩
   ·have n4 : decide (x ≤ y) = false := decide_eq_false hxy
    go_wp2
    go_roundg (l.length - (j + 1))
    case measure => have := HM.out; omega
    case rel =>
     refine ⟨j + 1, by go_num, ⟨Nat.le_refl _⟩, ⟨.inl (by omega)⟩, DQ, ⟨fun i hi => ?_⟩⟩
     rcases Nat.lt_or_ge i j with h | h
     ·exact HA.out i h
     ·obtain rfl : i = j := by omega
      rw [HX.out, HY.out]; omega
  ·have n3 : decide ((j : Int) + 1 < l.length) = false := by simp; omega
   have e : risingI l = true := by
    unfold risingI
    rw [List.all_eq_true]
    intro i hi
    have := List.mem_range.1 hi
    exact decide_eq_true (HA.out i (by have := HK.out; omega))
   go_wp2
   go_ret
   exact ⟨by rw [e]; rfl, DQ⟩
theorem lists1_calls (s : ByteArray) (w : World) : Calls Tryz.prog 87 #[.string s] w fun e w' => e = .returned (.bool (!namedB s)) ∧ Drawn0 w w' := by
 obtain ⟨b, hb⟩ : ∃ b, namedB s = b := ⟨_, rfl⟩
 have HN : Aside0 (∀ w, Calls Tryz.prog 88 #[.string s] w fun e w' => e = .returned (.bool b) ∧ Drawn0 w w') := ⟨fun w => hb ▸ capital_calls s w⟩
 rw [hb]
 clear hb
 cases b
 all_goals (
  go_enter Tryz.func87, Tryz.ntmps87
  go_wp2_with (first | (go_at_call 88; (refine (HN.out _).mono ?_); rintro e w' ⟨rfl, ⟨nd, rfl⟩⟩))
  go_ret
  exact ⟨rfl, DQ⟩)
theorem indexS1_calls (A : Option Addr) (c : Nat) (l : List ByteArray) (w : World) (hC : Kd.C Kd.string w A l.length l) (hc : l.length ≤ c) :
  Calls Tryz.prog 116 #[.slice A l.length c, .func (Fn.func 87) #[] #[]] w fun e w' => (∃ i : Int, e = .returned (.int .i64 i) ∧ (0 ≤ i ↔ l.any (fun s => !namedB s) = true)) ∧ Drawn0 w w' := by
 have HC := AsM hC
 have hl63 := Kd.C_max hC
 have HF := AsM (show ∀ s b, (!namedB s) = b → ∀ w, Calls Tryz.prog 87 #[.string s] w fun e w' => e = .returned (.bool b) ∧ Drawn0 w w' from fun s b h w => h ▸ lists1_calls s w)
 clear hC
 go_enter Tryz.func116, Tryz.ntmps116
 go_wp2
 go_loopg [8] l.length (fun kq x wr => ∃ k : Nat, x = .int .i64 k ∧ k ≤ l.length ∧ Aside0 (l.length - k ≤ kq) ∧ Drawn0 w wr ∧ Aside0 ((l.take k).any (fun s => !namedB s) = false))
 case atStart => exact ⟨0, rfl, Nat.zero_le _, ⟨Nat.le_refl _⟩, DQ, ⟨rfl⟩⟩
 case round =>
  obtain ⟨k, rfl, hk, HM, ⟨nk, rfl⟩, HA⟩ := hrel
  by_cases hkl : k < l.length
  ·have n3 : decide (k < l.length) = true := by simpa using hkl
   have p0 : (0 : Int) ≤ (k : Int) := by omega
   have p1 : (k : Int) < l.length := by omega
   obtain ⟨ad, rfl, h1⟩ := str_at HC.out k hkl
   obtain ⟨x, hx⟩ : ∃ x, l.getD k ByteArray.empty = x := ⟨_, rfl⟩
   rw [hx] at h1
   have hxm : l[k]? = some x := by rw [List.getD_eq_getElem?_getD, List.getElem?_eq_getElem hkl] at hx; rw [List.getElem?_eq_getElem hkl]; simpa using hx
   have HX := AsM hxm
   clear hx hxm
   cases hb : (!namedB x)
   ·have HB := AsM hb
    clear hb
    go_wp2_with (first | (go_at_call 87; (refine (HF.out x false HB.out _).mono ?_); rintro e w' ⟨rfl, ⟨nd, rfl⟩⟩))
    go_roundg (l.length - (k + 1))
    case measure => have := HM.out; omega
    case rel =>
     refine ⟨k + 1, by go_num, by omega, ⟨Nat.le_refl _⟩, DQ, ⟨?_⟩⟩
     rw [List.take_add_one, List.any_append, HA.out, HX.out]
     simp [HB.out]
   ·have HB := AsM hb
    clear hb
    go_wp2_with (first | (go_at_call 87; (refine (HF.out x true HB.out _).mono ?_); rintro e w' ⟨rfl, ⟨nd, rfl⟩⟩))
    go_ret
    exact ⟨⟨k, rfl, iff_of_true p0 (List.any_eq_true.2 ⟨x, List.mem_of_getElem? HX.out, HB.out⟩)⟩, DQ⟩
  ·obtain rfl : k = l.length := by omega
   have n3 : decide (l.length < l.length) = false := by simp
   have ha := HA.out
   rw [List.take_length] at ha
   have HA2 := AsM ha
   clear ha HA
   go_wp2
   go_ret
   exact ⟨⟨-1, rfl, iff_of_false (by decide) (by rw [HA2.out]; decide)⟩, DQ⟩
theorem containsS1_calls (A : Option Addr) (c : Nat) (l : List ByteArray) (w : World) (hC : Kd.C Kd.string w A l.length l) (hc : l.length ≤ c) (b : Bool) (hb : l.any (fun s => !namedB s) = b) :
  Calls Tryz.prog 86 #[.slice A l.length c, .func (Fn.func 87) #[] #[]] w fun e w' => e = .returned (.bool b) ∧ Drawn0 w w' := by
 have HI := AsM (indexS1_calls A c l w hC hc)
 have HB := AsM hb
 clear hC hb
 go_enter Tryz.func86, Tryz.ntmps86
 go_wp2_with (first | (go_at_call 116; (refine (HI.out).mono ?_); rintro e w' ⟨⟨i, rfl, hi⟩, ⟨nd, rfl⟩⟩; have HIF := AsM hi; clear hi))
 go_ret
 refine ⟨?_, DQ⟩
 have h1 := HIF.out
 rw [HB.out] at h1
 cases b
 ·have h2 : decide (0 ≤ i) = false := by simpa using h1
  simp [h2]
 ·have h2 : decide (0 ≤ i) = true := by simpa using h1
  simp [h2]
theorem lists2_calls (s : ByteArray) (w : World) : Calls Tryz.prog 89 #[.string s] w fun e w' => e = .returned (.bool (!curB s)) ∧ Drawn0 w w' := by
 obtain ⟨b, hb⟩ : ∃ b, curB s = b := ⟨_, rfl⟩
 have HN : Aside0 (∀ w, Calls Tryz.prog 90 #[.string s] w fun e w' => e = .returned (.bool b) ∧ Drawn0 w w') := ⟨fun w => hb ▸ currency_calls s w⟩
 rw [hb]
 clear hb
 cases b
 all_goals (
  go_enter Tryz.func89, Tryz.ntmps89
  go_wp2_with (first | (go_at_call 90; (refine (HN.out _).mono ?_); rintro e w' ⟨rfl, ⟨nd, rfl⟩⟩))
  go_ret
  exact ⟨rfl, DQ⟩)
theorem indexS2_calls (A : Option Addr) (c : Nat) (l : List ByteArray) (w : World) (hC : Kd.C Kd.string w A l.length l) (hc : l.length ≤ c) :
  Calls Tryz.prog 116 #[.slice A l.length c, .func (Fn.func 89) #[] #[]] w fun e w' => (∃ i : Int, e = .returned (.int .i64 i) ∧ (0 ≤ i ↔ l.any (fun s => !curB s) = true)) ∧ Drawn0 w w' := by
 have HC := AsM hC
 have hl63 := Kd.C_max hC
 have HF := AsM (show ∀ s b, (!curB s) = b → ∀ w, Calls Tryz.prog 89 #[.string s] w fun e w' => e = .returned (.bool b) ∧ Drawn0 w w' from fun s b h w => h ▸ lists2_calls s w)
 clear hC
 go_enter Tryz.func116, Tryz.ntmps116
 go_wp2
 go_loopg [8] l.length (fun kq x wr => ∃ k : Nat, x = .int .i64 k ∧ k ≤ l.length ∧ Aside0 (l.length - k ≤ kq) ∧ Drawn0 w wr ∧ Aside0 ((l.take k).any (fun s => !curB s) = false))
 case atStart => exact ⟨0, rfl, Nat.zero_le _, ⟨Nat.le_refl _⟩, DQ, ⟨rfl⟩⟩
 case round =>
  obtain ⟨k, rfl, hk, HM, ⟨nk, rfl⟩, HA⟩ := hrel
  by_cases hkl : k < l.length
  ·have n3 : decide (k < l.length) = true := by simpa using hkl
   have p0 : (0 : Int) ≤ (k : Int) := by omega
   have p1 : (k : Int) < l.length := by omega
   obtain ⟨ad, rfl, h1⟩ := str_at HC.out k hkl
   obtain ⟨x, hx⟩ : ∃ x, l.getD k ByteArray.empty = x := ⟨_, rfl⟩
   rw [hx] at h1
   have hxm : l[k]? = some x := by rw [List.getD_eq_getElem?_getD, List.getElem?_eq_getElem hkl] at hx; rw [List.getElem?_eq_getElem hkl]; simpa using hx
   have HX := AsM hxm
   clear hx hxm
   cases hb : (!curB x)
   ·have HB := AsM hb
    clear hb
    go_wp2_with (first | (go_at_call 89; (refine (HF.out x false HB.out _).mono ?_); rintro e w' ⟨rfl, ⟨nd, rfl⟩⟩))
    go_roundg (l.length - (k + 1))
    case measure => have := HM.out; omega
    case rel =>
     refine ⟨k + 1, by go_num, by omega, ⟨Nat.le_refl _⟩, DQ, ⟨?_⟩⟩
     rw [List.take_add_one, List.any_append, HA.out, HX.out]
     simp [HB.out]
   ·have HB := AsM hb
    clear hb
    go_wp2_with (first | (go_at_call 89; (refine (HF.out x true HB.out _).mono ?_); rintro e w' ⟨rfl, ⟨nd, rfl⟩⟩))
    go_ret
    exact ⟨⟨k, rfl, iff_of_true p0 (List.any_eq_true.2 ⟨x, List.mem_of_getElem? HX.out, HB.out⟩)⟩, DQ⟩
  ·obtain rfl : k = l.length := by omega
   have n3 : decide (l.length < l.length) = false := by simp
   have ha := HA.out
   rw [List.take_length] at ha
   have HA2 := AsM ha
   clear ha HA
   go_wp2
   go_ret
   exact ⟨⟨-1, rfl, iff_of_false (by decide) (by rw [HA2.out]; decide)⟩, DQ⟩
theorem containsS2_calls (A : Option Addr) (c : Nat) (l : List ByteArray) (w : World) (hC : Kd.C Kd.string w A l.length l) (hc : l.length ≤ c) (b : Bool) (hb : l.any (fun s => !curB s) = b) :
  Calls Tryz.prog 86 #[.slice A l.length c, .func (Fn.func 89) #[] #[]] w fun e w' => e = .returned (.bool b) ∧ Drawn0 w w' := by
 have HI := AsM (indexS2_calls A c l w hC hc)
 have HB := AsM hb
 clear hC hb
 go_enter Tryz.func86, Tryz.ntmps86
 go_wp2_with (first | (go_at_call 116; (refine (HI.out).mono ?_); rintro e w' ⟨⟨i, rfl, hi⟩, ⟨nd, rfl⟩⟩; have HIF := AsM hi; clear hi))
 go_ret
 refine ⟨?_, DQ⟩
 have h1 := HIF.out
 rw [HB.out] at h1
 cases b
 ·have h2 : decide (0 ≤ i) = false := by simpa using h1
  simp [h2]
 ·have h2 : decide (0 ≤ i) = true := by simpa using h1
  simp [h2]
def withinB (n most : Int) : Bool := decide (0 ≤ n) && decide (n ≤ most)
def listsB (names curs : List ByteArray) (pool : List Int) (hor cel slo sta : Int) : Bool := (!decide ((64 : Int) < (names.length : Int))) && (!decide ((4096 : Int) < (curs.length : Int))) && (!decide ((16384 : Int) < (pool.length : Int))) && risingS names && risingS curs && risingI pool && (!names.any (fun s => !namedB s)) && (!curs.any (fun s => !curB s)) && withinB hor 3660 && withinB cel 32768 && withinB slo 16384 && withinB sta 16384
theorem within_calls (n most : Int) (b : Bool) (hb : withinB n most = b) (w : World) : Calls Tryz.prog 91 #[.int .i64 n, .int .i64 most] w fun e w' => e = .returned (.bool b) ∧ Drawn0 w w' := by
 subst hb
 by_cases h : 0 ≤ n <;> by_cases h2 : n ≤ most
 all_goals (
  have e : withinB n most = withinB n most := rfl
  go_enter Tryz.func91, Tryz.ntmps91
  go_wp2
  go_ret
  exact ⟨by simp [withinB, h, h2], DQ⟩)
theorem lists_calls (A0 : Option Addr) (c0 : Nat) (names : List ByteArray) (A1 : Option Addr) (c1 : Nat) (curs : List ByteArray) (A2 : Option Addr) (c2 : Nat) (pool : List Int) (hor cel slo sta : Int) (v7 : Value) (w : World) (hr0 : Kd.C Kd.string w A0 names.length names) (hc0 : names.length ≤ c0) (hr1 : Kd.C Kd.string w A1 curs.length curs) (hc1 : curs.length ≤ c1) (hr2 : Kd.C (Kd.int .i64) w A2 pool.length pool) (hc2 : pool.length ≤ c2) (hl : pool.length ≤ 100000000000000) :
  Calls Tryz.prog 57 #[.agg #[.slice A0 names.length c0, .slice A1 curs.length c1, .slice A2 pool.length c2, .int .i64 hor, .int .i64 cel, .int .i64 slo, .int .i64 sta, v7]] w fun e w' => e = .returned (.bool (listsB names curs pool hor cel slo sta)) ∧ Fr w w' [] := by
 have HX := AsM (show ∀ w', Fr w w' [] → Below w.heap.size w w' from fun _ h => h.below)
 obtain ⟨bn1, hn1⟩ : ∃ b, decide ((64 : Int) < (names.length : Int)) = b := ⟨_, rfl⟩
 obtain ⟨bn2, hn2⟩ : ∃ b, decide ((4096 : Int) < (curs.length : Int)) = b := ⟨_, rfl⟩
 obtain ⟨bn3, hn3⟩ : ∃ b, decide ((16384 : Int) < (pool.length : Int)) = b := ⟨_, rfl⟩
 obtain ⟨br1, hR1⟩ : ∃ b, risingS names = b := ⟨_, rfl⟩
 obtain ⟨br2, hR2⟩ : ∃ b, risingS curs = b := ⟨_, rfl⟩
 obtain ⟨br3, hR3⟩ : ∃ b, risingI pool = b := ⟨_, rfl⟩
 obtain ⟨bq1, hq1⟩ : ∃ b, names.any (fun s => !namedB s) = b := ⟨_, rfl⟩
 obtain ⟨bq2, hq2⟩ : ∃ b, curs.any (fun s => !curB s) = b := ⟨_, rfl⟩
 obtain ⟨bw1, hw1⟩ : ∃ b, withinB hor 3660 = b := ⟨_, rfl⟩
 obtain ⟨bw2, hw2⟩ : ∃ b, withinB cel 32768 = b := ⟨_, rfl⟩
 obtain ⟨bw3, hw3⟩ : ∃ b, withinB slo 16384 = b := ⟨_, rfl⟩
 obtain ⟨bw4, hw4⟩ : ∃ b, withinB sta 16384 = b := ⟨_, rfl⟩
 have HLB : Aside0 (listsB names curs pool hor cel slo sta = ((!bn1) && (!bn2) && (!bn3) && br1 && br2 && br3 && (!bq1) && (!bq2) && bw1 && bw2 && bw3 && bw4)) := ⟨by unfold listsB; rw [hn1, hn2, hn3, hR1, hR2, hR3, hq1, hq2, hw1, hw2, hw3, hw4]⟩
 have R1 : Aside0 (∀ W, Fr w W [] → Calls Tryz.prog 84 #[.slice A0 names.length c0] W fun e w' => e = .returned (.bool br1) ∧ Drawn0 W w') := ⟨fun W h => hR1 ▸ risingS_calls A0 c0 names W (Kd.C_below hr0 h.below) hc0⟩
 have R2 : Aside0 (∀ W, Fr w W [] → Calls Tryz.prog 84 #[.slice A1 curs.length c1] W fun e w' => e = .returned (.bool br2) ∧ Drawn0 W w') := ⟨fun W h => hR2 ▸ risingS_calls A1 c1 curs W (Kd.C_below hr1 h.below) hc1⟩
 have R3 : Aside0 (∀ W, Fr w W [] → Calls Tryz.prog 85 #[.slice A2 pool.length c2] W fun e w' => e = .returned (.bool br3) ∧ Drawn0 W w') := ⟨fun W h => hR3 ▸ risingI_calls A2 c2 pool W (Kd.C_below hr2 h.below) hc2⟩
 have Q1 : Aside0 (∀ W, Fr w W [] → Calls Tryz.prog 86 #[.slice A0 names.length c0, .func (Fn.func 87) #[] #[]] W fun e w' => e = .returned (.bool bq1) ∧ Drawn0 W w') := ⟨fun W h => containsS1_calls A0 c0 names W (Kd.C_below hr0 h.below) hc0 bq1 hq1⟩
 have Q2 : Aside0 (∀ W, Fr w W [] → Calls Tryz.prog 86 #[.slice A1 curs.length c1, .func (Fn.func 89) #[] #[]] W fun e w' => e = .returned (.bool bq2) ∧ Drawn0 W w') := ⟨fun W h => containsS2_calls A1 c1 curs W (Kd.C_below hr1 h.below) hc1 bq2 hq2⟩
 have W1 := AsM (within_calls _ _ bw1 hw1)
 have W2 := AsM (within_calls _ _ bw2 hw2)
 have W3 := AsM (within_calls _ _ bw3 hw3)
 have W4 := AsM (within_calls _ _ bw4 hw4)
 rw [HLB.out]
 clear HLB hr0 hr1 hr2 hR1 hR2 hR3 hq1 hq2 hw1 hw2 hw3 hw4
 cases bn1
 cases bn2
 cases bn3
 cases br1
 rotate_left
 cases br2
 rotate_left
 cases br3
 rotate_left
 cases bq1
 cases bq2
 cases bw1
 rotate_left
 cases bw2
 rotate_left
 cases bw3
 rotate_left
 cases bw4
 rotate_left
 all_goals (
  go_enter Tryz.func57, Tryz.ntmps57
  go_wp2_with (first | (go_at_call 84; (with_reducible refine (R1.out _ ?_).mono ?_); (next => exact FQ); rintro e w' ⟨rfl, ⟨ndR1, rfl⟩⟩) | (go_at_call 84; (with_reducible refine (R2.out _ ?_).mono ?_); (next => exact FQ); rintro e w' ⟨rfl, ⟨ndR2, rfl⟩⟩) | (go_at_call 85; (with_reducible refine (R3.out _ ?_).mono ?_); (next => exact FQ); rintro e w' ⟨rfl, ⟨ndR3, rfl⟩⟩) | (go_at_call 86; (with_reducible refine (Q1.out _ ?_).mono ?_); (next => exact FQ); rintro e w' ⟨rfl, ⟨ndQ1, rfl⟩⟩) | (go_at_call 86; (with_reducible refine (Q2.out _ ?_).mono ?_); (next => exact FQ); rintro e w' ⟨rfl, ⟨ndQ2, rfl⟩⟩) | (go_at_call 91; (with_reducible refine (W1.out _).mono ?_); rintro e w' ⟨rfl, ⟨nW1, rfl⟩⟩) | (go_at_call 91; (with_reducible refine (W2.out _).mono ?_); rintro e w' ⟨rfl, ⟨nW2, rfl⟩⟩) | (go_at_call 91; (with_reducible refine (W3.out _).mono ?_); rintro e w' ⟨rfl, ⟨nW3, rfl⟩⟩) | (go_at_call 91; (with_reducible refine (W4.out _).mono ?_); rintro e w' ⟨rfl, ⟨nW4, rfl⟩⟩))
  go_ret
  exact ⟨by first | rfl | (simp; done), FQ⟩)
def bcells (l : List Bool) : Array Value := (l.map Value.bool).toArray
theorem bcells_set (l : List Bool) (n : Nat) (b : Bool) : (bcells l).setIfInBounds n (.bool b) = bcells (l.set n b) := by simp [bcells, List.map_set]
theorem bcells_get (l : List Bool) (n : Nat) (h : n < l.length) : (bcells l)[n]? = some (.bool (l.getD n false)) := by simp [bcells, List.getD_eq_getElem?_getD, List.getElem?_eq_getElem h]
structure Uses (w : World) (u g1 g2 g3 : Nat) (bn bc bp : List Bool) : Prop where
 blk : w.heap[u]? = some (.cells #[.slice (some ⟨g1, 0, none⟩) bn.length bn.length, .slice (some ⟨g2, 0, none⟩) bc.length bc.length, .slice (some ⟨g3, 0, none⟩) bp.length bp.length] 126 (0, 0))
 n1 : w.heap[g1]? = some (.cells (bcells bn) 4 (0, 0))
 n2 : w.heap[g2]? = some (.cells (bcells bc) 4 (0, 0))
 n3 : w.heap[g3]? = some (.cells (bcells bp) 4 (0, 0))
 d12 : g1 ≠ g2
 d13 : g1 ≠ g3
 d23 : g2 ≠ g3
theorem Uses.ne {w : World} {u g1 g2 g3 : Nat} {bn bc bp : List Bool} (h : Uses w u g1 g2 g3 bn bc bp) : u ≠ g1 ∧ u ≠ g2 ∧ u ≠ g3 := by
 refine ⟨fun e => ?_, fun e => ?_, fun e => ?_⟩
 ·have := h.blk; rw [e, h.n1] at this; simp at this
 ·have := h.blk; rw [e, h.n2] at this; simp at this
 ·have := h.blk; rw [e, h.n3] at this; simp at this
theorem Uses.fr {w w' : World} {u g1 g2 g3 : Nat} {bn bc bp : List Bool} (h : Uses w u g1 g2 g3 bn bc bp) (hf : Fr w w' []) : Uses w' u g1 g2 g3 bn bc bp :=
 ⟨hf.blk h.blk (by simp), hf.blk h.n1 (by simp), hf.blk h.n2 (by simp), hf.blk h.n3 (by simp), h.d12, h.d13, h.d23⟩
theorem Uses.set1 {w : World} {u g1 g2 g3 : Nat} {bn bc bp : List Bool} (h : Uses w u g1 g2 g3 bn bc bp) (n : Nat) : Uses (w.setCell ⟨g1, n, none⟩ (.bool true)) u g1 g2 g3 (bn.set n true) bc bp :=
 ⟨by rw [List.length_set]; exact at_far h.blk h.ne.1 _, by rw [← bcells_set]; exact blk_set h.n1 n _, at_far h.n2 (Ne.symm h.d12) _, at_far h.n3 (Ne.symm h.d13) _, h.d12, h.d13, h.d23⟩
theorem Uses.set2 {w : World} {u g1 g2 g3 : Nat} {bn bc bp : List Bool} (h : Uses w u g1 g2 g3 bn bc bp) (n : Nat) : Uses (w.setCell ⟨g2, n, none⟩ (.bool true)) u g1 g2 g3 bn (bc.set n true) bp :=
 ⟨by rw [List.length_set]; exact at_far h.blk h.ne.2.1 _, at_far h.n1 h.d12 _, by rw [← bcells_set]; exact blk_set h.n2 n _, at_far h.n3 (Ne.symm h.d23) _, h.d12, h.d13, h.d23⟩
theorem Uses.set3 {w : World} {u g1 g2 g3 : Nat} {bn bc bp : List Bool} (h : Uses w u g1 g2 g3 bn bc bp) (n : Nat) : Uses (w.setCell ⟨g3, n, none⟩ (.bool true)) u g1 g2 g3 bn bc (bp.set n true) :=
 ⟨by rw [List.length_set]; exact at_far h.blk h.ne.2.2 _, at_far h.n1 h.d13 _, at_far h.n2 h.d23 _, by rw [← bcells_set]; exact blk_set h.n3 n _, h.d12, h.d13, h.d23⟩
abbrev BL : Type := List Bool × List Bool × List Bool
def useStep (cel slo op A : Int) (b : BL) : Bool × BL :=
 if op = 1 then (if (b.2.2.length : Int) ≤ A then (false, b) else (true, b.1, b.2.1, b.2.2.set A.toNat true))
 else if op = 3 then (if (b.1.length : Int) ≤ A then (false, b) else (true, b.1.set A.toNat true, b.2.1, b.2.2))
 else if op = 28 then (if (b.2.1.length : Int) ≤ A then (false, b) else (true, b.1, b.2.1.set A.toNat true, b.2.2))
 else if op = 4 ∨ op = 5 then (decide (A < cel), b)
 else if op = 6 ∨ op = 7 then (decide (A < slo), b)
 else (true, b)
def UsePost (w : World) (u g1 g2 g3 : Nat) (r : Bool × BL) (e : Ending) (w' : World) : Prop := e = .returned (.bool r.1) ∧ Fr w w' [g1, g2, g3] ∧ Uses w' u g1 g2 g3 r.2.1 r.2.2.1 r.2.2.2
theorem use_calls (u g1 g2 g3 : Nat) (bn bc bp : List Bool) (v0 v1 v2 v3 : Value) (cel slo : Int) (v6 v7 : Value) (op A B : Int) (w : World) (hU : Uses w u g1 g2 g3 bn bc bp) (hA : 0 ≤ A) (hbn : bn.length ≤ 1000000) (hbc : bc.length ≤ 1000000) (hbp : bp.length ≤ 1000000) :
  Calls Tryz.prog 93 #[.pointer (some ⟨u, 0, none⟩), .agg #[v0, v1, v2, v3, .int .i64 cel, .int .i64 slo, v6, v7], .agg #[.int .i64 op, .int .i64 A, .int .i64 B]] w (UsePost w u g1 g2 g3 (useStep cel slo op A (bn, bc, bp))) := by
 obtain ⟨n, rfl⟩ : ∃ n : Nat, A = n := ⟨A.toNat, by omega⟩
 have ul := blk_lt hU.blk
 have u0 := blk_cell hU.blk 0
 have u1 := blk_cell hU.blk 1
 have u2 := blk_cell hU.blk 2
 have l1 := blk_lt hU.n1
 have l2 := blk_lt hU.n2
 have l3 := blk_lt hU.n3
 have z1 := blk_frozen hU.n1 n
 have z2 := blk_frozen hU.n2 n
 have z3 := blk_frozen hU.n3 n
 have HU := AsM hU
 have HB2 : Aside0 (∀ {a b : Obj}, Fr w ((w.alloc a).alloc b) []) := ⟨fun {a b} => FQ⟩
 have p0 : (0 : Int) ≤ (n : Int) := by omega
 have t1 := blk_cell hU.n1 n
 have t2 := blk_cell hU.n2 n
 have t3 := blk_cell hU.n3 n
 clear hU
 have hcs : op = 1 ∨ op = 3 ∨ op = 28 ∨ op = 4 ∨ op = 5 ∨ op = 6 ∨ op = 7 ∨ ((op == 1) = false ∧ (op == 3) = false ∧ (op == 28) = false ∧ (op == 4) = false ∧ (op == 5) = false ∧ (op == 6) = false ∧ (op == 7) = false) := by
  simp only [beq_eq_false_iff_ne, ne_eq]; omega
 rcases hcs with rfl | rfl | rfl | rfl | rfl | rfl | rfl | ⟨e1, e3, e28, e4, e5, e6, e7⟩
 ·by_cases h : (bp.length : Int) ≤ n
  ·have n9 : decide (bp.length ≤ n) = true := by simp; omega
   rw [show useStep cel slo 1 n (bn, bc, bp) = (false, bn, bc, bp) by unfold useStep; simp [h]]
   go_enter Tryz.func93, Tryz.ntmps93
   go_wp2
   go_ret
   exact ⟨rfl, FQ, HU.out.fr FQ⟩
  ·have n9 : decide (bp.length ≤ n) = false := by simp; omega
   have p1 : (n : Int) < bp.length := by omega
   have t9 : w.cell? ⟨g3, n, none⟩ = some (.bool (bp.getD n false)) := t3.trans (bcells_get bp n (by omega))
   clear t1 t2 t3
   rw [show useStep cel slo 1 n (bn, bc, bp) = (true, bn, bc, bp.set n true) by unfold useStep; simp [h]]
   go_enter Tryz.func93, Tryz.ntmps93
   go_wp2
   go_ret
   exact ⟨rfl, FQ, (HU.out.set3 n).fr FQ⟩
 ·by_cases h : (bn.length : Int) ≤ n
  ·have n9 : decide (bn.length ≤ n) = true := by simp; omega
   rw [show useStep cel slo 3 n (bn, bc, bp) = (false, bn, bc, bp) by unfold useStep; simp [h]]
   go_enter Tryz.func93, Tryz.ntmps93
   go_wp2
   go_ret
   exact ⟨rfl, FQ, HU.out.fr FQ⟩
  ·have n9 : decide (bn.length ≤ n) = false := by simp; omega
   have p1 : (n : Int) < bn.length := by omega
   have t9 : w.cell? ⟨g1, n, none⟩ = some (.bool (bn.getD n false)) := t1.trans (bcells_get bn n (by omega))
   clear t1 t2 t3
   rw [show useStep cel slo 3 n (bn, bc, bp) = (true, bn.set n true, bc, bp) by unfold useStep; simp [h]]
   go_enter Tryz.func93, Tryz.ntmps93
   go_wp2
   go_ret
   exact ⟨rfl, FQ, (HU.out.set1 n).fr FQ⟩
 ·by_cases h : (bc.length : Int) ≤ n
  ·have n9 : decide (bc.length ≤ n) = true := by simp; omega
   rw [show useStep cel slo 28 n (bn, bc, bp) = (false, bn, bc, bp) by unfold useStep; simp [h]]
   go_enter Tryz.func93, Tryz.ntmps93
   go_wp2
   go_ret
   exact ⟨rfl, FQ, HU.out.fr FQ⟩
  ·have n9 : decide (bc.length ≤ n) = false := by simp; omega
   have p1 : (n : Int) < bc.length := by omega
   have t9 : w.cell? ⟨g2, n, none⟩ = some (.bool (bc.getD n false)) := t2.trans (bcells_get bc n (by omega))
   clear t1 t2 t3
   rw [show useStep cel slo 28 n (bn, bc, bp) = (true, bn, bc.set n true, bp) by unfold useStep; simp [h]]
   go_enter Tryz.func93, Tryz.ntmps93
   go_wp2
   go_ret
   exact ⟨rfl, FQ, (HU.out.set2 n).fr FQ⟩
 ·rw [show useStep cel slo 4 n (bn, bc, bp) = (decide ((n : Int) < cel), bn, bc, bp) by unfold useStep; simp]
  go_enter Tryz.func93, Tryz.ntmps93
  go_wp2
  go_ret
  exact ⟨rfl, FQ, HU.out.fr FQ⟩
 ·rw [show useStep cel slo 5 n (bn, bc, bp) = (decide ((n : Int) < cel), bn, bc, bp) by unfold useStep; simp]
  go_enter Tryz.func93, Tryz.ntmps93
  go_wp2
  go_ret
  exact ⟨rfl, FQ, HU.out.fr FQ⟩
 ·rw [show useStep cel slo 6 n (bn, bc, bp) = (decide ((n : Int) < slo), bn, bc, bp) by unfold useStep; simp]
  go_enter Tryz.func93, Tryz.ntmps93
  go_wp2
  go_ret
  exact ⟨rfl, FQ, HU.out.fr FQ⟩
 ·rw [show useStep cel slo 7 n (bn, bc, bp) = (decide ((n : Int) < slo), bn, bc, bp) by unfold useStep; simp]
  go_enter Tryz.func93, Tryz.ntmps93
  go_wp2
  go_ret
  exact ⟨rfl, FQ, HU.out.fr FQ⟩
 ·rw [show useStep cel slo op n (bn, bc, bp) = (true, bn, bc, bp) by simp only [beq_eq_false_iff_ne, ne_eq] at e1 e3 e28 e4 e5 e6 e7; unfold useStep; simp [e1, e3, e28, e4, e5, e6, e7]]
  go_enter Tryz.func93, Tryz.ntmps93
  go_wp2
  go_ret
  exact ⟨rfl, FQ, HU.out.fr FQ⟩
def dayStep (cel slo : Int) (n : Nat) (k : Nat) (x : S113) (b : BL) : Bool × BL :=
 if validC x.f0 x.f1 x.f2 ≠ 0 then (false, b) else if (decide (x.f0 = 0) != decide (k + 1 = n)) = true then (false, b) else useStep cel slo x.f0 x.f1 b
def dayRun (cel slo : Int) (code : List S113) : Nat → Nat → BL → Bool × BL
 | 0, _, b => (true, b)
 | m + 1, k, b => if (dayStep cel slo code.length k (code.getD k z113) b).1 = true then dayRun cel slo code m (k + 1) (dayStep cel slo code.length k (code.getD k z113) b).2 else (dayStep cel slo code.length k (code.getD k z113) b)
def dayU (cel slo : Int) (code : List S113) (b : BL) : Bool × BL := if code.length < 2 then (false, b) else dayRun cel slo code code.length 0 b
end Go.Proofs.YtpoehkacfmljcaaGreatDoor.H
