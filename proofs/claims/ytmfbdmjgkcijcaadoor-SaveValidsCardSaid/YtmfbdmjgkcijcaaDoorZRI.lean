/- The reference's names, Capital, Currency. -/
import Derived.Test.YtmfbdmjgkcijcaaDoorZV
import Derived.Test.YtmfbdmjgkcijcaaDoorZHI
import Derived.Test.YtmfbdmjgkcijcaaDoorZKC
namespace Go.Proofs.YtmfbdmjgkcijcaaDoor.H
open Go.RowKit Go.Proofs.YtmfbdmjgkcijcaaDoorW.PrintWords Go.Proofs.YtmfbdmjgkcijcaaDoorW.PrintLast Go.Proofs.YtmfbdmjgkcijcaaDoorW.PrintMore
open Go.ChangeMaps (setBlock)
attribute [local go_sem] max2_int min2_int max_two min_two max_three min_three max_four min_four
set_option linter.unusedVariables false
set_option linter.unusedSimpArgs false
open Go.Proofs.YtmfbdmjgkcijcaaDoor.M
def noSma (s : ByteArray) : Bool := (List.range s.size).all fun k => !smaB (bt s k)
def NamesPost (s : ByteArray) (w : World) (e : Ending) (w' : World) : Prop := ∃ (k : Int) (t : ByteArray) (a d0 d1 d2 d3 d4 d5 pl er : Int), e = .returned (.tuple #[.agg #[.int .i64 k, .string t, .int .i64 a, .int .i64 d0, .int .i64 d1, .int .i64 d2, .int .i64 d3, .int .i64 d4, .int .i64 d5], .int .i64 pl, .int .i64 er]) ∧ (er = 0 ↔ noSma s = true ∧ s.size ≤ 31) ∧ Fr w w' []
set_option maxHeartbeats 4000000 in
set_option maxRecDepth 100000 in
theorem names_calls (s : ByteArray) (hs : s.size ≤ 9223372036854775806) (h0 : 0 < s.size) (hb : bigB (bt s 0) = true) (w : World) : Calls Tryd.prog 80 #[.string s, .int .i64 0] w (NamesPost s w) := by
  have CAP : Aside0 (∀ (c : Int) (b : Bool), bigB c = b → ∀ w, Calls Tryd.prog 78 #[.int .u8 c] w fun e w' => e = .returned (.bool b) ∧ Drawn0 w w') := ⟨fun c b h w => h ▸ rCap_calls c w⟩
  have SMA : Aside0 (∀ (c : Int) (b : Bool), smaB c = b → ∀ w, Calls Tryd.prog 88 #[.int .u8 c] w fun e w' => e = .returned (.bool b) ∧ Drawn0 w w') := ⟨fun c b h w => h ▸ rSma_calls c w⟩
  obtain ⟨c0, hc0⟩ : ∃ c, bt s 0 = c := ⟨_, rfl⟩
  have hx0 : ∀ h : 0 < s.size, ((s[0]'h).toNat : Int) = c0 := fun h => (bt_at s 0 h).trans hc0
  have HB0 := Aside0.mk (hc0 ▸ hb)
  clear hc0 hb
  have hut := Tryd.underlying151
  go_enter Tryd.func80, Tryd.ntmps80
  go_upto_region 2 with fail
  refine name_ (fun V => Aside0 (Fr w V []) ∧ Aside0 (V.heap[w.heap.size]? = some (.cells #[.int .i64 0, .string ⟨#[]⟩, .int .i64 0, .int .i64 0, .int .i64 0, .int .i64 0, .int .i64 0, .int .i64 0, .int .i64 0] 151 (0, 0))) ∧ Aside0 (V.heap[w.heap.size + 1]? = some (.cells #[.int .i64 1, .string s, .int .i64 0, .int .i64 0, .int .i64 0, .int .i64 0, .int .i64 0, .int .i64 0, .int .i64 0] 151 (0, 0)))) ⟨⟨FQ⟩, ⟨blk_alloc (blk_newN rfl) _⟩, ⟨blk_newN (by simp)⟩⟩ ?_
  rintro V1 ⟨HF, HR, HT⟩
  have t0 := blk_cell HT.out 0
  have y0 := blk_frozen HT.out 0
  go_upto_region 4 with (first | (go_at_call 78; (refine (CAP.out c0 true HB0.out _).mono ?_); rintro e w' ⟨rfl, ⟨nd, rfl⟩⟩))
  refine name_ (fun V => Aside0 (Fr w V []) ∧ Aside0 (V.heap[w.heap.size]? = some (.cells #[.int .i64 0, .string ⟨#[]⟩, .int .i64 0, .int .i64 0, .int .i64 0, .int .i64 0, .int .i64 0, .int .i64 0, .int .i64 0] 151 (0, 0))) ∧ Aside0 (V.heap[w.heap.size + 1]? = some (.cells #[.int .i64 2, .string s, .int .i64 0, .int .i64 0, .int .i64 0, .int .i64 0, .int .i64 0, .int .i64 0, .int .i64 0] 151 (0, 0)))) ⟨⟨by (with_reducible (repeat (first | exact Fr.refl _ _ | refine Fr.drew ?_ | refine Fr.drewN ?_ _ | refine Fr.alloc ?_ _ | refine Fr.setCell ?_ _ _ ?_))) <;> first | exact HF.out | exact .inr (by simp)⟩, ⟨at_far (blk_drewN HR.out _) (by simp) _⟩, ⟨blk_to (blk_set (blk_drewN HT.out _) 0 _) rfl⟩⟩ ?_
  clear t0 y0 hx0 HF HR HT
  rintro V ⟨HF, HR, HT⟩
  have t0 := blk_cell HT.out 0
  have t1 := blk_cell HT.out 1
  have t2 := blk_cell HT.out 2
  have t3 := blk_cell HT.out 3
  have t4 := blk_cell HT.out 4
  have t5 := blk_cell HT.out 5
  have t6 := blk_cell HT.out 6
  have t7 := blk_cell HT.out 7
  have t8 := blk_cell HT.out 8
  have hrl := blk_lt HT.out
  go_wp2
  go_loopg [8] s.size (fun kq x wr => ∃ k : Nat, x = .int .i64 k ∧ k ≤ s.size ∧ Aside0 (s.size - k ≤ kq) ∧ Drawn0 V wr ∧ Aside0 (∀ j, j < k → smaB (bt s j) = false))
  case atStart => exact ⟨0, rfl, Nat.zero_le _, ⟨Nat.le_refl _⟩, DQ, ⟨fun j hj => by omega⟩⟩
  case round =>
    obtain ⟨k, rfl, hk, HM, ⟨nk, rfl⟩, HA⟩ := hrel
    by_cases hkl : k < s.size
    · have n3 : decide (k < s.size) = true := by simpa using hkl
      have p0 : (0 : Int) ≤ (k : Int) := by omega
      have p1 : (k : Int) < s.size := by omega
      obtain ⟨c, hc⟩ : ∃ c, bt s k = c := ⟨_, rfl⟩
      have hx : ∀ h : k < s.size, ((s[k]'h).toNat : Int) = c := fun h => (by simpa using (bt_at s k (by simpa using h)).trans hc)
      have HC := Aside0.mk hc
      clear hc
      obtain ⟨bb, hbb⟩ : ∃ b, smaB c = b := ⟨_, rfl⟩
      have HBB := Aside0.mk hbb
      clear hbb
      cases bb with
      | false =>
        go_wp2_with (first | (go_at_call 88; (refine (SMA.out c _ HBB.out _).mono ?_); rintro e w' ⟨rfl, ⟨nd, rfl⟩⟩))
        go_roundg (s.size - (k + 1))
        case measure => have := HM.out; omega
        case rel =>
          refine ⟨k + 1, by go_num, by omega, ⟨Nat.le_refl _⟩, DQ, ⟨fun j hj => ?_⟩⟩
          rcases Nat.lt_or_ge j k with h | h
          · exact HA.out j h
          · obtain rfl : j = k := by omega
            rw [HC.out, HBB.out]
      | true =>
        go_upto_region 8 with (first | (go_at_call 88; (refine (SMA.out c _ HBB.out _).mono ?_); rintro e w' ⟨rfl, ⟨nd, rfl⟩⟩))
        refine name_ (fun V => Aside0 (Fr w V []) ∧ Aside0 (V.heap[w.heap.size]? = some (.cells #[.int .i64 0, .string ⟨#[]⟩, .int .i64 0, .int .i64 0, .int .i64 0, .int .i64 0, .int .i64 0, .int .i64 0, .int .i64 0] 151 (0, 0))) ∧ Aside0 (V.heap[w.heap.size + 1]? = some (.cells #[.int .i64 2, .string s, .int .i64 0, .int .i64 0, .int .i64 0, .int .i64 0, .int .i64 0, .int .i64 0, .int .i64 0] 151 (0, 0)))) ⟨⟨by (with_reducible (repeat (first | exact Fr.refl _ _ | refine Fr.drew ?_ | refine Fr.drewN ?_ _ | refine Fr.alloc ?_ _ | refine Fr.setCell ?_ _ _ ?_))); exact HF.out⟩, ⟨by first | exact blk_drewN (blk_drewN HR.out _) _ | exact blk_drewN HR.out _⟩, ⟨by first | exact blk_drewN (blk_drewN HT.out _) _ | exact blk_drewN HT.out _⟩⟩ ?_
        clear t0 t1 t2 t3 t4 t5 t6 t7 t8 hrl HF HR HT
        rintro V2 ⟨HF, HR, HT⟩
        have hrl := blk_lt HT.out
        have r0 := blk_cell HR.out 0
        have z0 := blk_frozen HR.out 0
        have r1 := blk_cell HR.out 1
        have z1 := blk_frozen HR.out 1
        have r2 := blk_cell HR.out 2
        have z2 := blk_frozen HR.out 2
        have r3 := blk_cell HR.out 3
        have z3 := blk_frozen HR.out 3
        have r4 := blk_cell HR.out 4
        have z4 := blk_frozen HR.out 4
        have r5 := blk_cell HR.out 5
        have z5 := blk_frozen HR.out 5
        have r6 := blk_cell HR.out 6
        have z6 := blk_frozen HR.out 6
        have r7 := blk_cell HR.out 7
        have z7 := blk_frozen HR.out 7
        have r8 := blk_cell HR.out 8
        have z8 := blk_frozen HR.out 8
        clear hx
        go_wp2
        refine bodyPost_ret (results_list (rs := [.cell 4 151, .tmp 5, .tmp 6]) rfl (by simp) (.cell w.heap.size 151 #[.int .i64 0, .string ⟨#[]⟩, .int .i64 0, .int .i64 0, .int .i64 0, .int .i64 0, .int .i64 0, .int .i64 0, .int .i64 0] (0, 0) _ rfl ?hb hut rfl rfl (.tmp (.tmp .nil)))) rfl ?_
        case hb => exact blk_to (blk_set (blk_set (blk_set (blk_set (blk_set (blk_set (blk_set (blk_set (blk_set HR.out 0 _) 1 _) 2 _) 3 _) 4 _) 5 _) 6 _) 7 _) 8 _) rfl
        refine ⟨_, _, _, _, _, _, _, _, _, _, _, rfl, ⟨fun h => absurd h (by decide), fun h => ?_⟩, (by (with_reducible (repeat (first | exact Fr.refl _ _ | refine Fr.drew ?_ | refine Fr.drewN ?_ _ | refine Fr.alloc ?_ _ | refine Fr.setCell ?_ _ _ ?_))) <;> first | exact HF.out | exact .inr (by simp))⟩
        have := List.all_eq_true.1 h.1 k (List.mem_range.2 hkl)
        rw [HC.out, HBB.out] at this
        cases this
    · obtain rfl : k = s.size := by omega
      have n3 : decide (s.size < s.size) = false := by simp
      by_cases h31 : 31 < s.size
      · have n4 : decide (31 < s.size) = true := by simpa using h31
        go_upto_region 10 with fail
        refine name_ (fun V => Aside0 (Fr w V []) ∧ Aside0 (V.heap[w.heap.size]? = some (.cells #[.int .i64 0, .string ⟨#[]⟩, .int .i64 0, .int .i64 0, .int .i64 0, .int .i64 0, .int .i64 0, .int .i64 0, .int .i64 0] 151 (0, 0))) ∧ Aside0 (V.heap[w.heap.size + 1]? = some (.cells #[.int .i64 2, .string s, .int .i64 0, .int .i64 0, .int .i64 0, .int .i64 0, .int .i64 0, .int .i64 0, .int .i64 0] 151 (0, 0)))) ⟨⟨by (with_reducible (repeat (first | exact Fr.refl _ _ | refine Fr.drew ?_ | refine Fr.drewN ?_ _ | refine Fr.alloc ?_ _ | refine Fr.setCell ?_ _ _ ?_))); exact HF.out⟩, ⟨blk_drewN HR.out _⟩, ⟨blk_drewN HT.out _⟩⟩ ?_
        clear t0 t1 t2 t3 t4 t5 t6 t7 t8 hrl HF HR HT
        rintro V2 ⟨HF, HR, HT⟩
        have hrl := blk_lt HT.out
        have r0 := blk_cell HR.out 0
        have z0 := blk_frozen HR.out 0
        have r1 := blk_cell HR.out 1
        have z1 := blk_frozen HR.out 1
        have r2 := blk_cell HR.out 2
        have z2 := blk_frozen HR.out 2
        have r3 := blk_cell HR.out 3
        have z3 := blk_frozen HR.out 3
        have r4 := blk_cell HR.out 4
        have z4 := blk_frozen HR.out 4
        have r5 := blk_cell HR.out 5
        have z5 := blk_frozen HR.out 5
        have r6 := blk_cell HR.out 6
        have z6 := blk_frozen HR.out 6
        have r7 := blk_cell HR.out 7
        have z7 := blk_frozen HR.out 7
        have r8 := blk_cell HR.out 8
        have z8 := blk_frozen HR.out 8
        go_wp2
        refine bodyPost_ret (results_list (rs := [.cell 4 151, .tmp 5, .tmp 6]) rfl (by simp) (.cell w.heap.size 151 #[.int .i64 0, .string ⟨#[]⟩, .int .i64 0, .int .i64 0, .int .i64 0, .int .i64 0, .int .i64 0, .int .i64 0, .int .i64 0] (0, 0) _ rfl ?hb hut rfl rfl (.tmp (.tmp .nil)))) rfl ?_
        case hb => exact blk_to (blk_set (blk_set (blk_set (blk_set (blk_set (blk_set (blk_set (blk_set (blk_set HR.out 0 _) 1 _) 2 _) 3 _) 4 _) 5 _) 6 _) 7 _) 8 _) rfl
        exact ⟨_, _, _, _, _, _, _, _, _, _, _, rfl, ⟨fun h => absurd h (by decide), fun h => by omega⟩, (by (with_reducible (repeat (first | exact Fr.refl _ _ | refine Fr.drew ?_ | refine Fr.drewN ?_ _ | refine Fr.alloc ?_ _ | refine Fr.setCell ?_ _ _ ?_))) <;> first | exact HF.out | exact .inr (by simp))⟩
      · have n4 : decide (31 < s.size) = false := by simpa using h31
        go_upto_region 11 with fail
        refine name_ (fun V => Aside0 (Fr w V []) ∧ Aside0 (V.heap[w.heap.size]? = some (.cells #[.int .i64 0, .string ⟨#[]⟩, .int .i64 0, .int .i64 0, .int .i64 0, .int .i64 0, .int .i64 0, .int .i64 0, .int .i64 0] 151 (0, 0))) ∧ Aside0 (V.heap[w.heap.size + 1]? = some (.cells #[.int .i64 2, .string s, .int .i64 0, .int .i64 0, .int .i64 0, .int .i64 0, .int .i64 0, .int .i64 0, .int .i64 0] 151 (0, 0)))) ⟨⟨by (with_reducible (repeat (first | exact Fr.refl _ _ | refine Fr.drew ?_ | refine Fr.drewN ?_ _ | refine Fr.alloc ?_ _ | refine Fr.setCell ?_ _ _ ?_))); exact HF.out⟩, ⟨blk_drewN HR.out _⟩, ⟨blk_drewN HT.out _⟩⟩ ?_
        clear t0 t1 t2 t3 t4 t5 t6 t7 t8 hrl HF HR HT
        rintro V2 ⟨HF, HR, HT⟩
        have hrl := blk_lt HT.out
        have r0 := blk_cell HR.out 0
        have z0 := blk_frozen HR.out 0
        have r1 := blk_cell HR.out 1
        have z1 := blk_frozen HR.out 1
        have r2 := blk_cell HR.out 2
        have z2 := blk_frozen HR.out 2
        have r3 := blk_cell HR.out 3
        have z3 := blk_frozen HR.out 3
        have r4 := blk_cell HR.out 4
        have z4 := blk_frozen HR.out 4
        have r5 := blk_cell HR.out 5
        have z5 := blk_frozen HR.out 5
        have r6 := blk_cell HR.out 6
        have z6 := blk_frozen HR.out 6
        have r7 := blk_cell HR.out 7
        have z7 := blk_frozen HR.out 7
        have r8 := blk_cell HR.out 8
        have z8 := blk_frozen HR.out 8
        have t0 := blk_cell HT.out 0
        have t1 := blk_cell HT.out 1
        have t2 := blk_cell HT.out 2
        have t3 := blk_cell HT.out 3
        have t4 := blk_cell HT.out 4
        have t5 := blk_cell HT.out 5
        have t6 := blk_cell HT.out 6
        have t7 := blk_cell HT.out 7
        have t8 := blk_cell HT.out 8
        go_wp2
        refine bodyPost_ret (results_list (rs := [.cell 4 151, .tmp 5, .tmp 6]) rfl (by simp) (.cell w.heap.size 151 #[.int .i64 2, .string s, .int .i64 0, .int .i64 0, .int .i64 0, .int .i64 0, .int .i64 0, .int .i64 0, .int .i64 0] (0, 0) _ rfl ?hb hut rfl rfl (.tmp (.tmp .nil)))) rfl ?_
        case hb => exact blk_to (blk_set (blk_set (blk_set (blk_set (blk_set (blk_set (blk_set (blk_set (blk_set HR.out 0 _) 1 _) 2 _) 3 _) 4 _) 5 _) 6 _) 7 _) 8 _) rfl
        refine ⟨_, _, _, _, _, _, _, _, _, _, _, rfl, ⟨fun _ => ⟨List.all_eq_true.2 fun k hk => ?_, by omega⟩, fun _ => rfl⟩, (by (with_reducible (repeat (first | exact Fr.refl _ _ | refine Fr.drew ?_ | refine Fr.drewN ?_ _ | refine Fr.alloc ?_ _ | refine Fr.setCell ?_ _ _ ?_))) <;> first | exact HF.out | exact .inr (by simp))⟩
        rw [HA.out k (List.mem_range.1 hk)]
        rfl
theorem named_iff (s : ByteArray) : namedB s = (decide (1 ≤ s.size) && bigB (bt s 0) && allRun s && noSma s && decide (s.size ≤ 31)) := by
  have h : ((List.range s.size).all fun k => namB (bt s k)) = (allRun s && noSma s) := by
    unfold allRun noSma
    rw [Bool.eq_iff_iff]
    simp only [Bool.and_eq_true, List.all_eq_true, List.mem_range]
    constructor
    · intro h
      refine ⟨fun k hk => ?_, fun k hk => ?_⟩
      · have := h k hk
        simp only [namB, runB, Bool.or_eq_true] at this ⊢
        rcases this with (h1 | h1) | h1
        · exact .inl (.inr h1)
        · exact .inl (.inl (.inl h1))
        · exact .inr h1
      · have := h k hk
        simp only [namB, bigB, digB, smaB, Bool.or_eq_true, decide_eq_true_eq, beq_iff_eq, Bool.not_eq_true', decide_eq_false_iff_not] at this ⊢
        omega
    · rintro ⟨h1, h2⟩ k hk
      have a := h1 k hk
      have b := h2 k hk
      simp only [namB, runB, Bool.or_eq_true, Bool.not_eq_true'] at a b ⊢
      rcases a with ((a | a) | a) | a
      · exact .inl (.inr a)
      · rw [a] at b; cases b
      · exact .inl (.inl a)
      · exact .inr a
  unfold namedB
  rw [h]
  cases decide (1 ≤ s.size) <;> cases decide (s.size ≤ 31) <;> cases bigB (bt s 0) <;> cases allRun s <;> cases noSma s <;> rfl
theorem bstr_inj {s t : ByteArray} (h : s.toList = t.toList) : s = t := by
  rw [ByteArray.toList_eq, ByteArray.toList_eq] at h
  exact ByteArray.ext (Array.toList_inj.1 h)
theorem size0 {s : ByteArray} (h : s.size = 0) : s = ⟨#[]⟩ := by
  rcases s with ⟨⟨l⟩⟩
  have : l = [] := List.eq_nil_of_length_eq_zero (by simpa [ByteArray.size] using h)
  rw [this]
set_option maxHeartbeats 4000000 in
set_option maxRecDepth 100000 in
theorem rCapital_calls (s : ByteArray) (hs : s.size ≤ 9223372036854775806) (w : World) : Calls Tryd.prog 53 #[.string s] w (MayPost (namedB s) w) := by
  have CAP : Aside0 (∀ (c : Int) (b : Bool), bigB c = b → ∀ w, Calls Tryd.prog 78 #[.int .u8 c] w fun e w' => e = .returned (.bool b) ∧ Drawn0 w w') := ⟨fun c b h w => h ▸ rCap_calls c w⟩
  have hut := Tryd.underlying151
  by_cases h0 : s.size = 0
  case pos =>
    obtain rfl := size0 h0
    clear h0 hs
    rw [show namedB ⟨#[]⟩ = false from by unfold namedB; rfl]
    go_enter Tryd.func53, Tryd.ntmps53
    go_wp2
    go_ret
    exact ⟨rfl, FQ⟩
  case neg =>
  have n0 : 0 < s.size := by omega
  have e0 : s.toList.isEmpty = false := by
    cases h : s.toList.isEmpty
    · rfl
    · have h1 : s.toList = [] := by simpa using h
      have h2 : s.toList.length = s.size := by rw [ByteArray.toList_eq, Array.length_toList]; rfl
      rw [h1] at h2
      simp at h2
      omega
  have e1 : ¬ s.toList = [] := fun h => by rw [h] at e0; simp at e0
  obtain ⟨c0, hc0⟩ : ∃ c, bt s 0 = c := ⟨_, rfl⟩
  have hx0 : ∀ h : 0 < s.size, ((s[0]'h).toNat : Int) = c0 := fun h => (bt_at s 0 h).trans hc0
  obtain ⟨b0, hb0⟩ : ∃ b, bigB c0 = b := ⟨_, rfl⟩
  obtain ⟨b1, hb1⟩ : ∃ b, allRun s = b := ⟨_, rfl⟩
  have hN : namedB s = (b0 && b1 && noSma s && decide (s.size ≤ 31)) := by rw [named_iff, hc0, hb0, hb1, show decide (1 ≤ s.size) = true by simp; omega]; simp
  have HRUN := Aside0.mk (run_calls s hs)
  have HB0 := Aside0.mk hb0
  have HB1 := Aside0.mk hb1
  have HNM : Aside0 (b0 = true → ∀ W, Calls Tryd.prog 80 #[.string s, .int .i64 0] W (NamesPost s W)) := ⟨fun h W => names_calls s hs n0 (by rw [hc0, hb0, h]) W⟩
  have HN := Aside0.mk hN
  clear hc0 hb0 hb1 hN h0
  cases b0 with
  | false =>
    rw [HN.out]
    go_enter Tryd.func53, Tryd.ntmps53
    go_wp2_with (first | (go_at_call 78; (refine (CAP.out c0 _ HB0.out _).mono ?_); rintro e w' ⟨rfl, ⟨nd, rfl⟩⟩))
    go_ret
    exact ⟨rfl, FQ⟩
  | true =>
  cases b1 with
  | false =>
    rw [HN.out]
    go_enter Tryd.func53, Tryd.ntmps53
    go_wp2_with (first | (go_at_call 78; (refine (CAP.out c0 _ HB0.out _).mono ?_); rintro e w' ⟨rfl, ⟨nd, rfl⟩⟩) | (go_at_call 79; (refine (HRUN.out _).mono ?_); go_loud (rintro e w' ⟨t, rfl, ht, ⟨nd2, rfl⟩⟩); have hts : ¬ t = s := (fun h => absurd (ht.1 h) (by rw [HB1.out]; decide)); have htl : ¬ t.toList = s.toList := (fun h => hts (bstr_inj h)); have htb : (t.toList == s.toList) = false := (beq_eq_false_iff_ne.2 htl); clear ht hts))
    go_ret
    exact ⟨rfl, FQ⟩
  | true =>
    go_enter Tryd.func53, Tryd.ntmps53
    go_wp2_with (first | (go_at_call 78; (refine (CAP.out c0 _ HB0.out _).mono ?_); rintro e w' ⟨rfl, ⟨nd, rfl⟩⟩) | (go_at_call 79; go_loud (refine (HRUN.out _).mono ?_); go_loud (rintro e w' ⟨t, rfl, ht, ⟨nd2, rfl⟩⟩); obtain rfl : s = t := (ht.2 HB1.out).symm; clear ht) | (go_at_call 80; go_loud (refine (HNM.out trivial _).mono ?_); rintro e W1 ⟨k, tt, a, d0, d1, d2, d3, d4, d5, pl, er, rfl, her, hF1⟩; have HF1 : Aside0 (Fr w W1 []) := ⟨Fr.trans (M := []) FQ hF1 (by simp)⟩; have HER := Aside0.mk her; clear hF1 her))
    go_ret
    refine ⟨?_, by (with_reducible (repeat (first | exact Fr.refl _ _ | refine Fr.drew ?_ | refine Fr.drewN ?_ _ | refine Fr.alloc ?_ _ | refine Fr.setCell ?_ _ _ ?_))) <;> first | exact HF1.out | simp⟩
    have : (er == 0) = (noSma s && decide (s.size ≤ 31)) := by
      have h := HER.out
      by_cases h9 : er = 0
      · obtain ⟨h1, h2⟩ := h.1 h9
        rw [h1]; simp [h9, h2]
      · have : ¬ (noSma s = true ∧ s.size ≤ 31) := fun h8 => h9 (h.2 h8)
        cases hh : noSma s
        · simp [h9]
        · have h31 : ¬ s.size ≤ 31 := fun h8 => this ⟨hh, h8⟩
          simp [h9, h31]
    rw [HN.out]
    simp [this]
set_option maxHeartbeats 4000000 in
set_option maxRecDepth 100000 in
theorem rCurrency_calls (s : ByteArray) (w : World) : Calls Tryd.prog 54 #[.string s] w fun e w' => e = .returned (.bool (curB s)) ∧ Drawn0 w w' := by
  have CAP : Aside0 (∀ (c : Int) (b : Bool), bigB c = b → ∀ w, Calls Tryd.prog 78 #[.int .u8 c] w fun e w' => e = .returned (.bool b) ∧ Drawn0 w w') := ⟨fun c b h w => h ▸ rCap_calls c w⟩
  by_cases h3 : s.size = 3
  case neg =>
    have n1 : ((s.size : Int) == 3) = false := by rw [beq_eq_false_iff_ne]; omega
    rw [show curB s = false by unfold curB; simp [h3]]
    go_enter Tryd.func54, Tryd.ntmps54
    go_wp2
    go_ret
    exact ⟨rfl, DQ⟩
  case pos =>
  have n1 : ((s.size : Int) == 3) = true := by rw [beq_iff_eq]; omega
  have q0 : 0 < s.size := by omega
  have q1 : 1 < s.size := by omega
  have q2 : 2 < s.size := by omega
  obtain ⟨c0, hc0⟩ : ∃ c, bt s 0 = c := ⟨_, rfl⟩
  obtain ⟨c1, hc1⟩ : ∃ c, bt s 1 = c := ⟨_, rfl⟩
  obtain ⟨c2, hc2⟩ : ∃ c, bt s 2 = c := ⟨_, rfl⟩
  have hx0 : ∀ h : 0 < s.size, ((s[0]'h).toNat : Int) = c0 := fun h => (bt_at s 0 h).trans hc0
  have hx1 : ∀ h : 1 < s.size, ((s[1]'h).toNat : Int) = c1 := fun h => (bt_at s 1 h).trans hc1
  have hx2 : ∀ h : 2 < s.size, ((s[2]'h).toNat : Int) = c2 := fun h => (bt_at s 2 h).trans hc2
  obtain ⟨b0, hb0⟩ : ∃ b, bigB c0 = b := ⟨_, rfl⟩
  obtain ⟨b1, hb1⟩ : ∃ b, bigB c1 = b := ⟨_, rfl⟩
  obtain ⟨b2, hb2⟩ : ∃ b, bigB c2 = b := ⟨_, rfl⟩
  have hN : curB s = (b0 && b1 && b2) := by unfold curB; rw [hc0, hc1, hc2, hb0, hb1, hb2]; simp [h3]
  have HB0 := Aside0.mk hb0
  have HB1 := Aside0.mk hb1
  have HB2 := Aside0.mk hb2
  rw [hN]
  clear hc0 hc1 hc2 hb0 hb1 hb2 hN h3
  cases b0 <;> cases b1
  all_goals (
    go_enter Tryd.func54, Tryd.ntmps54
    go_wp2_with (first | (go_at_call 78; (with_reducible refine (CAP.out c0 _ HB0.out _).mono ?_); rintro e w' ⟨rfl, ⟨nd, rfl⟩⟩) | (go_at_call 78; (with_reducible refine (CAP.out c1 _ HB1.out _).mono ?_); rintro e w' ⟨rfl, ⟨nd1, rfl⟩⟩) | (go_at_call 78; (with_reducible refine (CAP.out c2 _ HB2.out _).mono ?_); rintro e w' ⟨rfl, ⟨nd2, rfl⟩⟩))
    go_ret
    exact ⟨by simp, DQ⟩)
end Go.Proofs.YtmfbdmjgkcijcaaDoor.H
