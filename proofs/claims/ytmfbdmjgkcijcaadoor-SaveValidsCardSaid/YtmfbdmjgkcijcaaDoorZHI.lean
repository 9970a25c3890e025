/- image: names, currencies, the lists of a program. -/
import Derived.Test.YtmfbdmjgkcijcaaDoorZV
import Derived.Test.YtmfbdmjgkcijcaaDoorZHK
import Derived.Test.YtmfbdmjgkcijcaaDoorZRA
namespace Go.Proofs.YtmfbdmjgkcijcaaDoor.H
open Go.RowKit Go.Proofs.YtmfbdmjgkcijcaaDoorW.PrintWords Go.Proofs.YtmfbdmjgkcijcaaDoorW.PrintLast Go.Proofs.YtmfbdmjgkcijcaaDoorW.PrintMore
open Go.ChangeMaps (setBlock)
attribute [local go_sem] max2_int min2_int max_two min_two max_three min_three max_four min_four
set_option linter.unusedVariables false
set_option linter.unusedSimpArgs false
open Go.Proofs.YtmfbdmjgkcijcaaDoor.M
def bigB (c : Int) : Bool := decide (65 ≤ c ∧ c ≤ 90)
def digB (c : Int) : Bool := decide (48 ≤ c ∧ c ≤ 57)
def namB (c : Int) : Bool := bigB c || digB c || c == 95
def namedB (s : ByteArray) : Bool := decide (1 ≤ s.size) && decide (s.size ≤ 31) && bigB (bt s 0) && (List.range s.size).all fun k => namB (bt s k)
def curB (s : ByteArray) : Bool := decide (s.size = 3) && bigB (bt s 0) && bigB (bt s 1) && bigB (bt s 2)
set_option maxHeartbeats 4000000 in
set_option maxRecDepth 100000 in
theorem big_calls (c : Int) (w : World) : Calls Tryd.prog 85 #[.int .u8 c] w fun e w' => e = .returned (.bool (bigB c)) ∧ Drawn0 w w' := by
  by_cases h : 65 ≤ c <;> by_cases h2 : c ≤ 90
  all_goals (
    rw [show bigB c = _ from rfl]
    go_enter Tryd.func85, Tryd.ntmps85
    go_wp2
    go_ret
    exact ⟨by simp [bigB, h, h2], DQ⟩)
set_option maxHeartbeats 4000000 in
set_option maxRecDepth 100000 in
theorem digit_calls (c : Int) (w : World) : Calls Tryd.prog 89 #[.int .u8 c] w fun e w' => e = .returned (.bool (digB c)) ∧ Drawn0 w w' := by
  by_cases h : 48 ≤ c <;> by_cases h2 : c ≤ 57
  all_goals (
    rw [show digB c = _ from rfl]
    go_enter Tryd.func89, Tryd.ntmps89
    go_wp2
    go_ret
    exact ⟨by simp [digB, h, h2], DQ⟩)
theorem named_no {s : ByteArray} {k : Nat} {c : Int} (hc : bt s k = c) (h : namB c = false) (hk : k < s.size) : Ending.returned (.bool false) = Ending.returned (.bool (namedB s)) := by
  have : namedB s = false := by
    unfold namedB
    rw [Bool.and_eq_false_iff]
    right
    rw [List.all_eq_false]
    exact ⟨k, List.mem_range.2 hk, by rw [hc, h]; simp⟩
  rw [this]
theorem named_yes {s : ByteArray} (h1 : 1 ≤ s.size) (h2 : s.size ≤ 31) (h3 : bigB (bt s 0) = true) (h4 : ∀ j : Nat, j < s.size → namB (bt s j) = true) : Ending.returned (.bool true) = Ending.returned (.bool (namedB s)) := by
  have : namedB s = true := by
    unfold namedB
    rw [h3, List.all_eq_true.2 (fun k hk => h4 k (List.mem_range.1 hk))]
    simp [h1, h2]
  rw [this]
set_option maxHeartbeats 4000000 in
set_option maxRecDepth 100000 in
theorem named_calls (s : ByteArray) (w : World) : Calls Tryd.prog 84 #[.string s, .func (Fn.func 85) #[] #[]] w fun e w' => e = .returned (.bool (namedB s)) ∧ Drawn0 w w' := by
  have BIG : ∀ (c : Int) (b : Bool), bigB c = b → ∀ w, Calls Tryd.prog 85 #[.int .u8 c] w fun e w' => e = .returned (.bool b) ∧ Drawn0 w w' := fun c b h w => h ▸ big_calls c w
  have DIG : ∀ (c : Int) (b : Bool), digB c = b → ∀ w, Calls Tryd.prog 89 #[.int .u8 c] w fun e w' => e = .returned (.bool b) ∧ Drawn0 w w' := fun c b h w => h ▸ digit_calls c w
  have BIG' := Aside0.mk BIG
  have DIG' := Aside0.mk DIG
  clear BIG DIG
  by_cases h1 : s.size < 1
  · have n1 : decide (s.size < 1) = true := by simpa using h1
    rw [show namedB s = false by unfold namedB; rw [show decide (1 ≤ s.size) = false from decide_eq_false (by omega)]; rfl]
    go_enter Tryd.func84, Tryd.ntmps84
    go_wp2
    go_ret
    exact ⟨rfl, DQ⟩
  by_cases h2 : 31 < s.size
  · have n1 : decide (s.size < 1) = false := by simpa using h1
    have n2 : decide (31 < s.size) = true := by simpa using h2
    rw [show namedB s = false by unfold namedB; rw [show decide (s.size ≤ 31) = false from decide_eq_false (by omega)]; simp]
    go_enter Tryd.func84, Tryd.ntmps84
    go_wp2
    go_ret
    exact ⟨rfl, DQ⟩
  have n1 : decide (s.size < 1) = false := by simpa using h1
  have n2 : decide (31 < s.size) = false := by simpa using h2
  have n0 : 0 < s.size := by omega
  obtain ⟨c0, hc0⟩ : ∃ c, bt s 0 = c := ⟨_, rfl⟩
  have hx0 : ∀ h : 0 < s.size, ((s[0]'h).toNat : Int) = c0 := fun h => (bt_at s 0 h).trans hc0
  have HC0 := Aside0.mk hc0
  clear hc0
  cases hb0 : bigB c0
  · have HB0 := Aside0.mk hb0
    clear hb0
    have HN : Aside0 (namedB s = false) := ⟨by unfold namedB; rw [HC0.out, HB0.out]; simp⟩
    rw [HN.out]
    go_enter Tryd.func84, Tryd.ntmps84
    go_wp2_with (first | (go_at_call 85; (refine (BIG'.out c0 false HB0.out _).mono ?_); rintro e w' ⟨rfl, ⟨nd, rfl⟩⟩))
    go_ret
    exact ⟨rfl, DQ⟩
  have HB0 := Aside0.mk hb0
  clear hb0
  go_enter Tryd.func84, Tryd.ntmps84
  go_wp2_with (first | (go_at_call 85; (refine (BIG'.out c0 true HB0.out _).mono ?_); rintro e w' ⟨rfl, ⟨nd, rfl⟩⟩))
  go_loopg [23] s.size (fun kq x wr => ∃ k : Nat, x = .int .i64 k ∧ k ≤ s.size ∧ Aside0 (s.size - k ≤ kq) ∧ Drawn0 w wr ∧ Aside0 (∀ j, j < k → namB (bt s j) = true))
  case atStart => exact ⟨0, rfl, Nat.zero_le _, ⟨Nat.le_refl _⟩, DQ, ⟨fun j hj => by omega⟩⟩
  case round =>
    obtain ⟨k, rfl, hk, HM, ⟨nk, rfl⟩, HA⟩ := hrel
    clear hx0
    by_cases hkl : k < s.size
    · have n3 : decide (k < s.size) = true := by simpa using hkl
      have p0 : (0 : Int) ≤ (k : Int) := by omega
      have p1 : (k : Int) < s.size := by omega
      obtain ⟨c, hc⟩ : ∃ c, bt s k = c := ⟨_, rfl⟩
      have hx : ∀ h : k < s.size, ((s[k]'h).toNat : Int) = c := fun h => (by simpa using (bt_at s k (by simpa using h)).trans hc)
      have HC := Aside0.mk hc
      clear hc
      obtain ⟨bb, hbb⟩ : ∃ b, bigB c = b := ⟨_, rfl⟩
      obtain ⟨dd, hdd⟩ : ∃ b, digB c = b := ⟨_, rfl⟩
      have HBB := Aside0.mk hbb
      have HDD := Aside0.mk hdd
      clear hbb hdd
      have he : (c = 95) ∨ ((c == 95) = false ∧ (c != 95) = true) := by by_cases h : c = 95 <;> simp [h]
      cases bb with
      | true =>
        go_wp2_with (first | (go_at_call 85; (refine (BIG'.out c _ HBB.out _).mono ?_); rintro e w' ⟨rfl, ⟨nd, rfl⟩⟩) | (go_at_call 89; (refine (DIG'.out c _ HDD.out _).mono ?_); rintro e w' ⟨rfl, ⟨nd2, rfl⟩⟩))
        go_roundg (s.size - (k + 1))
        case measure => have := HM.out; omega
        case rel =>
          refine ⟨k + 1, by go_num, by omega, ⟨Nat.le_refl _⟩, DQ, ⟨fun j hj => ?_⟩⟩
          rcases Nat.lt_or_ge j k with h | h
          · exact HA.out j h
          · obtain rfl : j = k := by omega
            unfold namB
            rw [HC.out, HBB.out, HDD.out]
            simp
      | false =>
      cases dd with
      | true =>
        go_wp2_with (first | (go_at_call 85; (refine (BIG'.out c _ HBB.out _).mono ?_); rintro e w' ⟨rfl, ⟨nd, rfl⟩⟩) | (go_at_call 89; (refine (DIG'.out c _ HDD.out _).mono ?_); rintro e w' ⟨rfl, ⟨nd2, rfl⟩⟩))
        go_roundg (s.size - (k + 1))
        case measure => have := HM.out; omega
        case rel =>
          refine ⟨k + 1, by go_num, by omega, ⟨Nat.le_refl _⟩, DQ, ⟨fun j hj => ?_⟩⟩
          rcases Nat.lt_or_ge j k with h | h
          · exact HA.out j h
          · obtain rfl : j = k := by omega
            unfold namB
            rw [HC.out, HBB.out, HDD.out]
            simp
      | false =>
      rcases he with rfl | ⟨he, he2⟩
      · go_wp2_with (first | (go_at_call 85; (refine (BIG'.out 95 _ HBB.out _).mono ?_); rintro e w' ⟨rfl, ⟨nd, rfl⟩⟩) | (go_at_call 89; (refine (DIG'.out 95 _ HDD.out _).mono ?_); rintro e w' ⟨rfl, ⟨nd2, rfl⟩⟩))
        go_roundg (s.size - (k + 1))
        case measure => have := HM.out; omega
        case rel =>
          refine ⟨k + 1, by go_num, by omega, ⟨Nat.le_refl _⟩, DQ, ⟨fun j hj => ?_⟩⟩
          rcases Nat.lt_or_ge j k with h | h
          · exact HA.out j h
          · obtain rfl : j = k := by omega
            unfold namB
            rw [HC.out, HBB.out, HDD.out]
            simp
      · have HE := Aside0.mk he
        go_wp2_with (first | (go_at_call 85; (refine (BIG'.out c _ HBB.out _).mono ?_); rintro e w' ⟨rfl, ⟨nd, rfl⟩⟩) | (go_at_call 89; (refine (DIG'.out c _ HDD.out _).mono ?_); rintro e w' ⟨rfl, ⟨nd2, rfl⟩⟩))
        go_ret
        exact ⟨named_no HC.out (by unfold namB; rw [HBB.out, HDD.out, HE.out]; rfl) hkl, DQ⟩
    · obtain rfl : k = s.size := by omega
      have n3 : decide (s.size < s.size) = false := by simp
      go_wp2
      go_ret
      exact ⟨named_yes (by omega) (by omega) (by rw [HC0.out]; exact HB0.out) HA.out, DQ⟩
set_option maxHeartbeats 4000000 in
set_option maxRecDepth 100000 in
theorem capital_calls (s : ByteArray) (w : World) : Calls Tryd.prog 65 #[.string s] w fun e w' => e = .returned (.bool (namedB s)) ∧ Drawn0 w w' := by
  obtain ⟨b, hb⟩ : ∃ b, namedB s = b := ⟨_, rfl⟩
  have HN : Aside0 (∀ w, Calls Tryd.prog 84 #[.string s, .func (Fn.func 85) #[] #[]] w fun e w' => e = .returned (.bool b) ∧ Drawn0 w w') := ⟨fun w => hb ▸ named_calls s w⟩
  rw [hb]
  clear hb
  go_enter Tryd.func65, Tryd.ntmps65
  go_wp2_with (first | (go_at_call 84; (refine (HN.out _).mono ?_); rintro e w' ⟨rfl, ⟨nd, rfl⟩⟩))
  go_ret
  exact ⟨rfl, DQ⟩
set_option maxHeartbeats 4000000 in
set_option maxRecDepth 100000 in
theorem currency_calls (s : ByteArray) (w : World) : Calls Tryd.prog 67 #[.string s] w fun e w' => e = .returned (.bool (curB s)) ∧ Drawn0 w w' := by
  have BIG' : Aside0 (∀ (c : Int) (b : Bool), bigB c = b → ∀ w, Calls Tryd.prog 85 #[.int .u8 c] w fun e w' => e = .returned (.bool b) ∧ Drawn0 w w') := ⟨fun c b h w => h ▸ big_calls c w⟩
  by_cases h3 : s.size = 3
  · obtain ⟨c0, hc0⟩ : ∃ c, bt s 0 = c := ⟨_, rfl⟩
    obtain ⟨c1, hc1⟩ : ∃ c, bt s 1 = c := ⟨_, rfl⟩
    obtain ⟨c2, hc2⟩ : ∃ c, bt s 2 = c := ⟨_, rfl⟩
    have hx0 : ∀ h : 0 < s.size, ((s[0]'h).toNat : Int) = c0 := fun h => (bt_at s 0 h).trans hc0
    have hx1 : ∀ h : 1 < s.size, ((s[1]'h).toNat : Int) = c1 := fun h => (bt_at s 1 h).trans hc1
    have hx2 : ∀ h : 2 < s.size, ((s[2]'h).toNat : Int) = c2 := fun h => (bt_at s 2 h).trans hc2
    have n0 : 0 < s.size := by omega
    have n1 : 1 < s.size := by omega
    have n2 : 2 < s.size := by omega
    have n3 : ((s.size : Int) == 3) = true := by rw [h3]; rfl
    have HV : Aside0 (curB s = (bigB c0 && bigB c1 && bigB c2)) := ⟨by unfold curB; rw [hc0, hc1, hc2, show decide (s.size = 3) = true by simpa using h3]; rfl⟩
    obtain ⟨b0, hb0⟩ : ∃ b, bigB c0 = b := ⟨_, rfl⟩
    obtain ⟨b1, hb1⟩ : ∃ b, bigB c1 = b := ⟨_, rfl⟩
    obtain ⟨b2, hb2⟩ : ∃ b, bigB c2 = b := ⟨_, rfl⟩
    rw [HV.out, hb0, hb1, hb2]
    have HB0 := Aside0.mk hb0
    have HB1 := Aside0.mk hb1
    have HB2 := Aside0.mk hb2
    have H0 := Aside0.mk (BIG'.out c0 b0 hb0)
    have H1 := Aside0.mk (BIG'.out c1 b1 hb1)
    have H2 := Aside0.mk (BIG'.out c2 b2 hb2)
    clear hb0 hb1 hb2 hc0 hc1 hc2 HV h3 BIG'
    cases b0 <;> cases b1
    all_goals (
      go_enter Tryd.func67, Tryd.ntmps67
      go_wp2_with (first | (go_at_call 85; (with_reducible refine (H0.out _).mono ?_); rintro e w' ⟨rfl, ⟨nd, rfl⟩⟩) | (go_at_call 85; (with_reducible refine (H1.out _).mono ?_); rintro e w' ⟨rfl, ⟨nd2, rfl⟩⟩) | (go_at_call 85; (with_reducible refine (H2.out _).mono ?_); rintro e w' ⟨rfl, ⟨nd3, rfl⟩⟩))
      go_ret
      exact ⟨rfl, DQ⟩)
  · have n3 : ((s.size : Int) == 3) = false := by rw [beq_eq_false_iff_ne]; omega
    rw [show curB s = false by unfold curB; rw [show decide (s.size = 3) = false by simpa using h3]; rfl]
    go_enter Tryd.func67, Tryd.ntmps67
    go_wp2
    go_ret
    exact ⟨rfl, DQ⟩
end Go.Proofs.YtmfbdmjgkcijcaaDoor.H
namespace Go.Proofs.YtmfbdmjgkcijcaaDoor.H
open Go.RowKit Go.Proofs.YtmfbdmjgkcijcaaDoorW.PrintWords Go.Proofs.YtmfbdmjgkcijcaaDoorW.PrintLast Go.Proofs.YtmfbdmjgkcijcaaDoorW.PrintMore
open Go.ChangeMaps (setBlock)
attribute [local go_sem] max2_int min2_int max_two min_two max_three min_three max_four min_four
set_option linter.unusedVariables false
set_option linter.unusedSimpArgs false
open Go.Proofs.YtmfbdmjgkcijcaaDoor.M
def smaB (c : Int) : Bool := decide (97 ≤ c ∧ c ≤ 122)
def runB (c : Int) : Bool := digB c || smaB c || bigB c || c == 95
set_option maxHeartbeats 4000000 in
set_option maxRecDepth 100000 in
theorem rCap_calls (c : Int) (w : World) : Calls Tryd.prog 78 #[.int .u8 c] w fun e w' => e = .returned (.bool (bigB c)) ∧ Drawn0 w w' := by
  by_cases h : 65 ≤ c <;> by_cases h2 : c ≤ 90
  all_goals (
    rw [show bigB c = _ from rfl]
    go_enter Tryd.func78, Tryd.ntmps78
    go_wp2
    go_ret
    exact ⟨by simp [bigB, h, h2], DQ⟩)
set_option maxHeartbeats 4000000 in
set_option maxRecDepth 100000 in
theorem rSma_calls (c : Int) (w : World) : Calls Tryd.prog 88 #[.int .u8 c] w fun e w' => e = .returned (.bool (smaB c)) ∧ Drawn0 w w' := by
  by_cases h : 97 ≤ c <;> by_cases h2 : c ≤ 122
  all_goals (
    rw [show smaB c = _ from rfl]
    go_enter Tryd.func88, Tryd.ntmps88
    go_wp2
    go_ret
    exact ⟨by simp [smaB, h, h2], DQ⟩)
set_option maxHeartbeats 4000000 in
set_option maxRecDepth 100000 in
theorem rDig_calls (c : Int) (w : World) : Calls Tryd.prog 90 #[.int .u8 c] w fun e w' => e = .returned (.bool (digB c)) ∧ Drawn0 w w' := by
  by_cases h : 48 ≤ c <;> by_cases h2 : c ≤ 57
  all_goals (
    rw [show digB c = _ from rfl]
    go_enter Tryd.func90, Tryd.ntmps90
    go_wp2
    go_ret
    exact ⟨by simp [digB, h, h2], DQ⟩)
set_option maxHeartbeats 4000000 in
set_option maxRecDepth 100000 in
theorem rRuns_calls (c : Int) (w : World) : Calls Tryd.prog 87 #[.int .u8 c] w fun e w' => e = .returned (.bool (runB c)) ∧ Drawn0 w w' := by
  obtain ⟨b1, h1⟩ : ∃ b, digB c = b := ⟨_, rfl⟩
  obtain ⟨b2, h2⟩ : ∃ b, smaB c = b := ⟨_, rfl⟩
  obtain ⟨b3, h3⟩ : ∃ b, bigB c = b := ⟨_, rfl⟩
  obtain ⟨b4, h4⟩ : ∃ b, (c == 95) = b := ⟨_, rfl⟩
  have H1 : Aside0 (∀ w, Calls Tryd.prog 90 #[.int .u8 c] w fun e w' => e = .returned (.bool b1) ∧ Drawn0 w w') := ⟨fun w => h1 ▸ rDig_calls c w⟩
  have H2 : Aside0 (∀ w, Calls Tryd.prog 88 #[.int .u8 c] w fun e w' => e = .returned (.bool b2) ∧ Drawn0 w w') := ⟨fun w => h2 ▸ rSma_calls c w⟩
  have H3 : Aside0 (∀ w, Calls Tryd.prog 78 #[.int .u8 c] w fun e w' => e = .returned (.bool b3) ∧ Drawn0 w w') := ⟨fun w => h3 ▸ rCap_calls c w⟩
  rw [show runB c = (b1 || b2 || b3 || b4) by unfold runB; rw [h1, h2, h3, h4]]
  clear h1 h2 h3
  cases b1 <;> cases b2 <;> cases b3
  all_goals (
    go_enter Tryd.func87, Tryd.ntmps87
    go_wp2_with (first | (go_at_call 90; (refine (H1.out _).mono ?_); rintro e w' ⟨rfl, ⟨nd, rfl⟩⟩) | (go_at_call 88; (refine (H2.out _).mono ?_); rintro e w' ⟨rfl, ⟨nd2, rfl⟩⟩) | (go_at_call 78; (refine (H3.out _).mono ?_); rintro e w' ⟨rfl, ⟨nd3, rfl⟩⟩))
    go_ret
    exact ⟨(by first | rfl | (simp; done) | (simp [*]; done)), DQ⟩)
def allRun (s : ByteArray) : Bool := (List.range s.size).all fun k => runB (bt s k)
/-- What run tells from place 0: the text itself, or a piece of it that is another text. -/
def RunPost (s : ByteArray) (w : World) (e : Ending) (w' : World) : Prop := ∃ t : ByteArray, e = .returned (.string t) ∧ (t = s ↔ allRun s = true) ∧ Drawn0 w w'
set_option maxHeartbeats 4000000 in
set_option maxRecDepth 100000 in
theorem run_calls (s : ByteArray) (hs : s.size ≤ 9223372036854775806) (w : World) : Calls Tryd.prog 79 #[.string s, .int .i64 0] w (RunPost s w) := by
  have RUN : Aside0 (∀ (c : Int) (b : Bool), runB c = b → ∀ w, Calls Tryd.prog 87 #[.int .u8 c] w fun e w' => e = .returned (.bool b) ∧ Drawn0 w w') := ⟨fun c b h w => h ▸ rRuns_calls c w⟩
  go_enter Tryd.func79, Tryd.ntmps79
  go_wp2
  go_loopg [5] s.size (fun kq x wr => ∃ k : Nat, x = .int .i64 k ∧ k ≤ s.size ∧ Aside0 (s.size - k ≤ kq) ∧ Drawn0 w wr ∧ Aside0 (∀ j, j < k → runB (bt s j) = true))
  case atStart => exact ⟨0, rfl, Nat.zero_le _, ⟨Nat.le_refl _⟩, DQ, ⟨fun j hj => by omega⟩⟩
  case round =>
    obtain ⟨k, rfl, hk, HM, ⟨nk, rfl⟩, HA⟩ := hrel
    by_cases hkl : k < s.size
    · have n3 : decide (k < s.size) = true := by simpa using hkl
      have p0 : (0 : Int) ≤ (k : Int) := by omega
      have p1 : (k : Int) < s.size := by omega
      obtain ⟨c, hc⟩ : ∃ c, bt s k = c := ⟨_, rfl⟩
      have hx : ∀ h : k < s.size, ((s[k]'h).toNat : Int) = c := fun h => (by simpa using (bt_at s k (by simpa using h)).trans hc)
      have HC := Aside0.mk hc
      clear hc
      obtain ⟨bb, hbb⟩ : ∃ b, runB c = b := ⟨_, rfl⟩
      have HBB := Aside0.mk hbb
      clear hbb
      cases bb with
      | true =>
        go_wp2_with (first | (go_at_call 87; (refine (RUN.out c _ HBB.out _).mono ?_); rintro e w' ⟨rfl, ⟨nd, rfl⟩⟩))
        go_roundg (s.size - (k + 1))
        case measure => have := HM.out; omega
        case rel =>
          refine ⟨k + 1, by go_num, by omega, ⟨Nat.le_refl _⟩, DQ, ⟨fun j hj => ?_⟩⟩
          rcases Nat.lt_or_ge j k with h | h
          · exact HA.out j h
          · obtain rfl : j = k := by omega
            rw [HC.out, HBB.out]
      | false =>
        go_wp2_with (first | (go_at_call 87; (refine (RUN.out c _ HBB.out _).mono ?_); rintro e w' ⟨rfl, ⟨nd, rfl⟩⟩))
        go_ret
        refine ⟨s.extract 0 k, by first | rfl | simp, ⟨fun h => ?_, fun h => ?_⟩, DQ⟩
        · have := congrArg ByteArray.size h
          rw [ByteArray.size_extract] at this
          omega
        · have := List.all_eq_true.1 h k (List.mem_range.2 hkl)
          rw [HC.out, HBB.out] at this
          cases this
    · obtain rfl : k = s.size := by omega
      have n3 : decide (s.size < s.size) = false := by simp
      go_wp2
      go_ret
      refine ⟨s, by first | rfl | simp, ⟨fun _ => List.all_eq_true.2 fun k hk => HA.out k (List.mem_range.1 hk), fun _ => rfl⟩, DQ⟩
end Go.Proofs.YtmfbdmjgkcijcaaDoor.H
