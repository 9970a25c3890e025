/- slices.Clone. -/
import Derived.Test.YtmfbdmjgkcijcaaDoorZV
import Derived.Test.YtmfbdmjgkcijcaaDoorZHF
namespace Go.Proofs.YtmfbdmjgkcijcaaDoor.H
open Go.RowKit Go.Proofs.YtmfbdmjgkcijcaaDoorW.PrintWords Go.Proofs.YtmfbdmjgkcijcaaDoorW.PrintLast Go.Proofs.YtmfbdmjgkcijcaaDoorW.PrintMore
open Go.ChangeMaps (setBlock)
attribute [local go_sem] max2_int min2_int max_two min_two max_three min_three max_four min_four
set_option linter.unusedVariables false
set_option linter.unusedSimpArgs false
open Go.Proofs.YtmfbdmjgkcijcaaDoor.M
def ClonePost {α : Type} (d : Kd α) (xs : List α) (w : World) (e : Ending) (w' : World) : Prop :=
  ∃ A c, e = .returned (.slice A xs.length c) ∧ xs.length ≤ c ∧ d.C w' A xs.length xs ∧ Fr w w' []
theorem empty_R {α : Type} (d : Kd α) (e : Nat) (w : World) : d.R e (w.alloc (.cells #[] e)) w.heap.size (fun _ => True) (.slice (some ⟨w.heap.size, 0, none⟩) 0 0) [] :=
  ⟨fun _ _ => trivial, [], ⟨by simp, .inr ⟨w.heap.size, 0, #[], rfl, Nat.le_refl _, blk_newN rfl, Nat.le_refl _, by simp [maxLen], by simp, by simp⟩⟩, Reps.none _ _⟩
set_option maxHeartbeats 4000000 in
set_option maxRecDepth 100000 in
theorem cloneS_calls (A : Option Addr) (c : Nat) (xs : List ByteArray) (w : World) (hr : Kd.C Kd.string w A xs.length xs) (hc : xs.length ≤ c) (hl : xs.length ≤ 1000000000000) :
    Calls Tryd.prog 17 #[.slice A xs.length c] w (ClonePost Kd.string xs w) := by
  have qnil : ∀ (w : World) (a : Option Addr) (n c n' c' : Nat), (binOp .eql 22 (.slice a n c) (.slice none n' c')).run Tryd.prog w = .ok (.bool a.isNone) w := fun w a n c n' c' => Lib.run_eql_slice_nil w _ _ a n c n' c' Tryd.underlying22
  have HR := Aside0.mk hr
  clear hr
  have hA : A = none ∨ ∃ ad, A = some ad := by cases A <;> simp
  rcases hA with rfl | ⟨ad, rfl⟩
  · go_enter Tryd.func17, Tryd.ntmps17
    go_wp2
    refine bodyPost_ret (results_tmp rfl _ _ _) rfl ?_
    cases xs with
    | nil => exact ⟨none, 0, rfl, Nat.le_refl _, HR.out, Fr.refl _ _⟩
    | cons x xs =>
      obtain ⟨ad, h, _⟩ := HR.out.2.2 (by simp)
      cases h
  · go_enter Tryd.func17, Tryd.ntmps17
    go_wp2_with (first | (at_builtin; (refine Kd.R_append_rows Kd.string (w0 := w) w.heap.size rfl (.tmp 5) (.tmp 6) 22 9 (.string ⟨#[]⟩) 16 rfl Tryd.underlying22 info9 rfl (by decide) (by decide) _ [] xs (some ad) xs.length c (fun _ => True) (fun _ => False) rfl rfl (empty_R _ _ w) (Kd.C_alloc HR.out _) (fun _ _ h => h) (fun _ h => h.elim) (fun _ _ => trivial) (below_alloc (Below.refl _ _) _) (by simp) (by simp; omega) ?_); intro v1 w1 ho hb hg hat; have HO := Aside0.mk ho; have HF := Aside0.mk (Fr.grown (L := []) (Fr.alloc (Fr.refl w []) _) hg (fun k hk => .inr (by injection hk with hk; simp at hk; omega))); clear ho hb hg hat))
    obtain ⟨A1, c1, rfl, h1, h2⟩ := Kd.R_reads HO.out
    refine bodyPost_ret (results_tmp rfl _ _ _) rfl ?_
    exact ⟨A1, c1, rfl, by simpa using h1, by simpa using h2, HF.out⟩
set_option maxHeartbeats 4000000 in
set_option maxRecDepth 100000 in
theorem cloneI_calls (A : Option Addr) (c : Nat) (xs : List Int) (w : World) (hr : Kd.C (Kd.int .i64) w A xs.length xs) (hc : xs.length ≤ c) (hl : xs.length ≤ 1000000000000) :
    Calls Tryd.prog 18 #[.slice A xs.length c] w (ClonePost (Kd.int .i64) xs w) := by
  have qnil : ∀ (w : World) (a : Option Addr) (n c n' c' : Nat), (binOp .eql 23 (.slice a n c) (.slice none n' c')).run Tryd.prog w = .ok (.bool a.isNone) w := fun w a n c n' c' => Lib.run_eql_slice_nil w _ _ a n c n' c' Tryd.underlying23
  have HR := Aside0.mk hr
  clear hr
  have hA : A = none ∨ ∃ ad, A = some ad := by cases A <;> simp
  rcases hA with rfl | ⟨ad, rfl⟩
  · go_enter Tryd.func18, Tryd.ntmps18
    go_wp2
    refine bodyPost_ret (results_tmp rfl _ _ _) rfl ?_
    cases xs with
    | nil => exact ⟨none, 0, rfl, Nat.le_refl _, HR.out, Fr.refl _ _⟩
    | cons x xs =>
      obtain ⟨ad, h, _⟩ := HR.out.2.2 (by simp)
      cases h
  · go_enter Tryd.func18, Tryd.ntmps18
    go_wp2_with (first | (at_builtin; (refine Kd.R_append_rows (Kd.int .i64) (w0 := w) w.heap.size rfl (.tmp 5) (.tmp 6) 23 3 (.int .i64 0) 8 rfl Tryd.underlying23 info3 rfl (by decide) (by decide) _ [] xs (some ad) xs.length c (fun _ => True) (fun _ => False) rfl rfl (empty_R _ _ w) (Kd.C_alloc HR.out _) (fun _ _ h => h) (fun _ h => h.elim) (fun _ _ => trivial) (below_alloc (Below.refl _ _) _) (by simp) (by simp; omega) ?_); intro v1 w1 ho hb hg hat; have HO := Aside0.mk ho; have HF := Aside0.mk (Fr.grown (L := []) (Fr.alloc (Fr.refl w []) _) hg (fun k hk => .inr (by injection hk with hk; simp at hk; omega))); clear ho hb hg hat))
    obtain ⟨A1, c1, rfl, h1, h2⟩ := Kd.R_reads HO.out
    refine bodyPost_ret (results_tmp rfl _ _ _) rfl ?_
    exact ⟨A1, c1, rfl, by simpa using h1, by simpa using h2, HF.out⟩
set_option maxHeartbeats 4000000 in
set_option maxRecDepth 100000 in
theorem cloneN_calls (A : Option Addr) (c : Nat) (xs : List S64) (w : World) (hr : Kd.C k64 w A xs.length xs) (hc : xs.length ≤ c) (hl : xs.length ≤ 1000000000000) :
    Calls Tryd.prog 19 #[.slice A xs.length c] w (ClonePost k64 xs w) := by
  have qnil : ∀ (w : World) (a : Option Addr) (n c n' c' : Nat), (binOp .eql 39 (.slice a n c) (.slice none n' c')).run Tryd.prog w = .ok (.bool a.isNone) w := fun w a n c n' c' => Lib.run_eql_slice_nil w _ _ a n c n' c' Tryd.underlying39
  have HR := Aside0.mk hr
  clear hr
  have hA : A = none ∨ ∃ ad, A = some ad := by cases A <;> simp
  rcases hA with rfl | ⟨ad, rfl⟩
  · go_enter Tryd.func19, Tryd.ntmps19
    go_wp2
    refine bodyPost_ret (results_tmp rfl _ _ _) rfl ?_
    cases xs with
    | nil => exact ⟨none, 0, rfl, Nat.le_refl _, HR.out, Fr.refl _ _⟩
    | cons x xs =>
      obtain ⟨ad, h, _⟩ := HR.out.2.2 (by simp)
      cases h
  · go_enter Tryd.func19, Tryd.ntmps19
    go_wp2_with (first | (at_builtin; (refine Kd.R_append_rows k64 (w0 := w) w.heap.size rfl (.tmp 5) (.tmp 6) 39 64 (.agg #[.int .i64 0, .int .i64 0, .int .i64 0]) 24 rfl Tryd.underlying39 info64 rfl (by decide) (by decide) _ [] xs (some ad) xs.length c (fun _ => True) (fun _ => False) rfl rfl (empty_R _ _ w) (Kd.C_alloc HR.out _) (fun _ _ h => h) (fun _ h => h.elim) (fun _ _ => trivial) (below_alloc (Below.refl _ _) _) (by simp) (by simp; omega) ?_); intro v1 w1 ho hb hg hat; have HO := Aside0.mk ho; have HF := Aside0.mk (Fr.grown (L := []) (Fr.alloc (Fr.refl w []) _) hg (fun k hk => .inr (by injection hk with hk; simp at hk; omega))); clear ho hb hg hat))
    obtain ⟨A1, c1, rfl, h1, h2⟩ := Kd.R_reads HO.out
    refine bodyPost_ret (results_tmp rfl _ _ _) rfl ?_
    exact ⟨A1, c1, rfl, by simpa using h1, by simpa using h2, HF.out⟩
set_option maxHeartbeats 4000000 in
set_option maxRecDepth 100000 in
theorem cloneC_calls (A : Option Addr) (c : Nat) (xs : List S69) (w : World) (hr : Kd.C k69 w A xs.length xs) (hc : xs.length ≤ c) (hl : xs.length ≤ 1000000000000) :
    Calls Tryd.prog 24 #[.slice A xs.length c] w (ClonePost k69 xs w) := by
  have qnil : ∀ (w : World) (a : Option Addr) (n c n' c' : Nat), (binOp .eql 42 (.slice a n c) (.slice none n' c')).run Tryd.prog w = .ok (.bool a.isNone) w := fun w a n c n' c' => Lib.run_eql_slice_nil w _ _ a n c n' c' Tryd.underlying42
  have HR := Aside0.mk hr
  clear hr
  have hA : A = none ∨ ∃ ad, A = some ad := by cases A <;> simp
  rcases hA with rfl | ⟨ad, rfl⟩
  · go_enter Tryd.func24, Tryd.ntmps24
    go_wp2
    refine bodyPost_ret (results_tmp rfl _ _ _) rfl ?_
    cases xs with
    | nil => exact ⟨none, 0, rfl, Nat.le_refl _, HR.out, Fr.refl _ _⟩
    | cons x xs =>
      obtain ⟨ad, h, _⟩ := HR.out.2.2 (by simp)
      cases h
  · go_enter Tryd.func24, Tryd.ntmps24
    go_wp2_with (first | (at_builtin; (refine Kd.R_append_rows k69 (w0 := w) w.heap.size rfl (.tmp 5) (.tmp 6) 42 69 (.agg #[.bool false, .int .i64 0]) 16 rfl Tryd.underlying42 info69 rfl (by decide) (by decide) _ [] xs (some ad) xs.length c (fun _ => True) (fun _ => False) rfl rfl (empty_R _ _ w) (Kd.C_alloc HR.out _) (fun _ _ h => h) (fun _ h => h.elim) (fun _ _ => trivial) (below_alloc (Below.refl _ _) _) (by simp) (by simp; omega) ?_); intro v1 w1 ho hb hg hat; have HO := Aside0.mk ho; have HF := Aside0.mk (Fr.grown (L := []) (Fr.alloc (Fr.refl w []) _) hg (fun k hk => .inr (by injection hk with hk; simp at hk; omega))); clear ho hb hg hat))
    obtain ⟨A1, c1, rfl, h1, h2⟩ := Kd.R_reads HO.out
    refine bodyPost_ret (results_tmp rfl _ _ _) rfl ?_
    exact ⟨A1, c1, rfl, by simpa using h1, by simpa using h2, HF.out⟩
end Go.Proofs.YtmfbdmjgkcijcaaDoor.H
namespace Go.Proofs.YtmfbdmjgkcijcaaDoor.H
open Go.RowKit Go.Proofs.YtmfbdmjgkcijcaaDoorW.PrintWords Go.Proofs.YtmfbdmjgkcijcaaDoorW.PrintLast Go.Proofs.YtmfbdmjgkcijcaaDoorW.PrintMore
open Go.ChangeMaps (setBlock)
attribute [local go_sem] max2_int min2_int max_two min_two max_three min_three max_four min_four
set_option linter.unusedVariables false
set_option linter.unusedSimpArgs false
open Go.Proofs.YtmfbdmjgkcijcaaDoor.M
theorem int_at {w : World} {A : Option Addr} {n : Nat} {xs : List Int} (h : Kd.C (Kd.int .i64) w A n xs) (k : Nat) (hk : k < n) : ∃ ad, A = some ad ∧ w.cell? (ad.add k) = some (.int .i64 (xs.getD k 0)) := by
  obtain ⟨ad, e, hc⟩ := ReadsOf.at_ (enc := Value.int .i64) (d := 0) (Kd.reads_of_C h) (k : Int) (by omega) (by omega)
  exact ⟨ad, e, by simpa [rdOf] using hc⟩
set_option maxHeartbeats 4000000 in
set_option maxRecDepth 100000 in
theorem may1_calls (x : Int) (w : World) : Calls Tryd.prog 21 #[.int .i64 x] w fun e w' => e = .returned (.bool (!(decide (x = 0)))) ∧ Drawn0 w w' := by
  have hx : (x != 0) = !(decide (x = 0)) := by by_cases h : x = 0 <;> simp [h]
  go_enter Tryd.func21, Tryd.ntmps21
  go_wp2
  go_ret
  exact ⟨by simp [hx], DQ⟩
set_option maxHeartbeats 4000000 in
set_option maxRecDepth 100000 in
theorem indexI_calls (A : Option Addr) (c : Nat) (l : List Int) (w : World) (hC : Kd.C (Kd.int .i64) w A l.length l) (hc : l.length ≤ c) :
    Calls Tryd.prog 29 #[.slice A l.length c, .func (Fn.func 21) #[] #[]] w fun e w' => (∃ i : Int, e = .returned (.int .i64 i) ∧ (0 ≤ i ↔ l.any (fun s => !(decide (s = 0))) = true)) ∧ Drawn0 w w' := by
  have HC := Aside0.mk hC
  have hl63 := Kd.C_max hC
  have HF := Aside0.mk (show ∀ s b, (!(decide (s = 0))) = b → ∀ w, Calls Tryd.prog 21 #[.int .i64 s] w fun e w' => e = .returned (.bool b) ∧ Drawn0 w w' from fun s b h w => h ▸ may1_calls s w)
  clear hC
  go_enter Tryd.func29, Tryd.ntmps29
  go_wp2
  go_loopg [8] l.length (fun kq x wr => ∃ k : Nat, x = .int .i64 k ∧ k ≤ l.length ∧ Aside0 (l.length - k ≤ kq) ∧ Drawn0 w wr ∧ Aside0 ((l.take k).any (fun s => !(decide (s = 0))) = false))
  case atStart => exact ⟨0, rfl, Nat.zero_le _, ⟨Nat.le_refl _⟩, DQ, ⟨rfl⟩⟩
  case round =>
    obtain ⟨k, rfl, hk, HM, ⟨nk, rfl⟩, HA⟩ := hrel
    by_cases hkl : k < l.length
    · have n3 : decide (k < l.length) = true := by simpa using hkl
      have p0 : (0 : Int) ≤ (k : Int) := by omega
      have p1 : (k : Int) < l.length := by omega
      obtain ⟨ad, rfl, h1⟩ := int_at HC.out k hkl
      obtain ⟨x, hx⟩ : ∃ x, l.getD k 0 = x := ⟨_, rfl⟩
      rw [hx] at h1
      have hxm : l[k]? = some x := by rw [List.getD_eq_getElem?_getD, List.getElem?_eq_getElem hkl] at hx; rw [List.getElem?_eq_getElem hkl]; simpa using hx
      have HX := Aside0.mk hxm
      clear hx hxm
      cases hb : (!(decide (x = 0)))
      · have HB := Aside0.mk hb
        clear hb
        go_wp2_with (first | (go_at_call 21; (refine (HF.out x false HB.out _).mono ?_); rintro e w' ⟨rfl, ⟨nd, rfl⟩⟩))
        go_roundg (l.length - (k + 1))
        case measure => have := HM.out; omega
        case rel =>
          refine ⟨k + 1, by go_num, by omega, ⟨Nat.le_refl _⟩, DQ, ⟨?_⟩⟩
          rw [List.take_add_one, List.any_append, HA.out, HX.out]
          simp [HB.out]
      · have HB := Aside0.mk hb
        clear hb
        go_wp2_with (first | (go_at_call 21; (refine (HF.out x true HB.out _).mono ?_); rintro e w' ⟨rfl, ⟨nd, rfl⟩⟩))
        go_ret
        exact ⟨⟨k, rfl, iff_of_true p0 (List.any_eq_true.2 ⟨x, List.mem_of_getElem? HX.out, HB.out⟩)⟩, DQ⟩
    · obtain rfl : k = l.length := by omega
      have n3 : decide (l.length < l.length) = false := by simp
      have ha := HA.out
      rw [List.take_length] at ha
      have HA2 := Aside0.mk ha
      clear ha HA
      go_wp2
      go_ret
      exact ⟨⟨-1, rfl, iff_of_false (by decide) (by rw [HA2.out]; decide)⟩, DQ⟩
set_option maxHeartbeats 4000000 in
set_option maxRecDepth 100000 in
theorem containsI_calls (A : Option Addr) (c : Nat) (l : List Int) (w : World) (hC : Kd.C (Kd.int .i64) w A l.length l) (hc : l.length ≤ c) (b : Bool) (hb : l.any (fun s => !(decide (s = 0))) = b) :
    Calls Tryd.prog 20 #[.slice A l.length c, .func (Fn.func 21) #[] #[]] w fun e w' => e = .returned (.bool b) ∧ Drawn0 w w' := by
  have HI := Aside0.mk (indexI_calls A c l w hC hc)
  have HB := Aside0.mk hb
  clear hC hb
  go_enter Tryd.func20, Tryd.ntmps20
  go_wp2_with (first | (go_at_call 29; (refine (HI.out).mono ?_); rintro e w' ⟨⟨i, rfl, hi⟩, ⟨nd, rfl⟩⟩; have HIF := Aside0.mk hi; clear hi))
  go_ret
  refine ⟨?_, DQ⟩
  have h1 := HIF.out
  rw [HB.out] at h1
  cases b
  · have h2 : decide (0 ≤ i) = false := by simpa using h1
    simp [h2]
  · have h2 : decide (0 ≤ i) = true := by simpa using h1
    simp [h2]
theorem cell_at {w : World} {A : Option Addr} {n : Nat} {xs : List S69} (h : Kd.C k69 w A n xs) (k : Nat) (hk : k < n) : ∃ ad, A = some ad ∧ w.cell? (ad.add (k * 2)) = some (.bool (xs.getD k z69).f0) ∧ w.cell? ⟨(ad.add (k * 2)).block, (ad.add (k * 2)).off + 1, none⟩ = some (.int .i64 (xs.getD k z69).f1) := by
  obtain ⟨ad, e, h0, h1⟩ := at_T69 h (k : Int) (by omega) (by omega)
  simp only [rd_T69, Int.toNat_natCast] at h0 h1
  exact ⟨ad, e, h0, h1⟩
def cellBad (x : S69) : Bool := !x.f0 && !(decide (x.f1 = 0))
set_option maxHeartbeats 4000000 in
set_option maxRecDepth 100000 in
theorem may2_calls (x : S69) (w : World) : Calls Tryd.prog 23 #[.agg #[.bool x.f0, .int .i64 x.f1]] w fun e w' => e = .returned (.bool (cellBad x)) ∧ Fr w w' [] := by
  obtain ⟨b, v⟩ := x
  have hx : (v != 0) = !(decide (v = 0)) := by by_cases h : v = 0 <;> simp [h]
  have hup := Tryd.underlying69
  cases b
  all_goals (
    go_enter Tryd.func23, Tryd.ntmps23
    go_wp2
    go_ret
    exact ⟨by simp [cellBad, hx], FQ⟩)
set_option maxHeartbeats 4000000 in
set_option maxRecDepth 100000 in
theorem indexC_calls (A : Option Addr) (c : Nat) (l : List S69) (w : World) (hC : Kd.C k69 w A l.length l) (hc : l.length ≤ c) :
    Calls Tryd.prog 30 #[.slice A l.length c, .func (Fn.func 23) #[] #[]] w fun e w' => (∃ i : Int, e = .returned (.int .i64 i) ∧ (0 ≤ i ↔ l.any (fun s => cellBad s) = true)) ∧ Fr w w' [] := by
  have HC := Aside0.mk hC
  have hl63 := Kd.C_max hC
  have HF := Aside0.mk (show ∀ s b, (cellBad s) = b → ∀ w, Calls Tryd.prog 23 #[.agg #[.bool s.f0, .int .i64 s.f1]] w fun e w' => e = .returned (.bool b) ∧ Fr w w' [] from fun s b h w => h ▸ may2_calls s w)
  clear hC
  go_enter Tryd.func30, Tryd.ntmps30
  go_wp2
  go_loopg [8] l.length (fun kq x wr => ∃ k : Nat, x = .int .i64 k ∧ k ≤ l.length ∧ Aside0 (l.length - k ≤ kq) ∧ Aside0 (Fr w wr []) ∧ Aside0 ((l.take k).any (fun s => cellBad s) = false))
  case atStart => exact ⟨0, rfl, Nat.zero_le _, ⟨Nat.le_refl _⟩, ⟨FQ⟩, ⟨rfl⟩⟩
  case round =>
    obtain ⟨k, rfl, hk, HM, HFW, HA⟩ := hrel
    by_cases hkl : k < l.length
    · have n3 : decide (k < l.length) = true := by simpa using hkl
      have p0 : (0 : Int) ≤ (k : Int) := by omega
      have p1 : (k : Int) < l.length := by omega
      obtain ⟨ad, rfl, h1, h2⟩ := cell_at (Kd.C_below HC.out HFW.out.below) k hkl
      obtain ⟨x, hx⟩ : ∃ x, l.getD k z69 = x := ⟨_, rfl⟩
      rw [hx] at h1 h2
      have hxm : l[k]? = some x := by rw [List.getD_eq_getElem?_getD, List.getElem?_eq_getElem hkl] at hx; rw [List.getElem?_eq_getElem hkl]; simpa using hx
      have HX := Aside0.mk hxm
      clear hx hxm
      cases hb : (cellBad x)
      · have HB := Aside0.mk hb
        clear hb
        go_wp2_with (first | (go_at_call 23; (refine (HF.out x false HB.out _).mono ?_); rintro e w' ⟨rfl, hF9⟩; have HF9 := Aside0.mk (Fr.trans (M := []) HFW.out (Fr.trans (M := []) FQ hF9 (by simp)) (by simp)); clear hF9))
        go_roundg (l.length - (k + 1))
        case measure => have := HM.out; omega
        case rel =>
          refine ⟨k + 1, by go_num, by omega, ⟨Nat.le_refl _⟩, ⟨by (with_reducible (repeat (first | exact Fr.refl _ _ | refine Fr.drew ?_ | refine Fr.drewN ?_ _ | refine Fr.alloc ?_ _ | refine Fr.setCell ?_ _ _ ?_))); exact HF9.out⟩, ⟨?_⟩⟩
          rw [List.take_add_one, List.any_append, HA.out, HX.out]
          simp [HB.out]
      · have HB := Aside0.mk hb
        clear hb
        go_wp2_with (first | (go_at_call 23; (refine (HF.out x true HB.out _).mono ?_); rintro e w' ⟨rfl, hF9⟩; have HF9 := Aside0.mk (Fr.trans (M := []) HFW.out (Fr.trans (M := []) FQ hF9 (by simp)) (by simp)); clear hF9))
        go_ret
        exact ⟨⟨k, rfl, iff_of_true p0 (List.any_eq_true.2 ⟨x, List.mem_of_getElem? HX.out, HB.out⟩)⟩, by (with_reducible (repeat (first | exact Fr.refl _ _ | refine Fr.drew ?_ | refine Fr.drewN ?_ _ | refine Fr.alloc ?_ _ | refine Fr.setCell ?_ _ _ ?_))); exact HF9.out⟩
    · obtain rfl : k = l.length := by omega
      have n3 : decide (l.length < l.length) = false := by simp
      have ha := HA.out
      rw [List.take_length] at ha
      have HA2 := Aside0.mk ha
      clear ha HA
      go_wp2
      go_ret
      exact ⟨⟨-1, rfl, iff_of_false (by decide) (by rw [HA2.out]; decide)⟩, by (with_reducible (repeat (first | exact Fr.refl _ _ | refine Fr.drew ?_ | refine Fr.drewN ?_ _ | refine Fr.alloc ?_ _ | refine Fr.setCell ?_ _ _ ?_))); exact HFW.out⟩
set_option maxHeartbeats 4000000 in
set_option maxRecDepth 100000 in
theorem containsC_calls (A : Option Addr) (c : Nat) (l : List S69) (w : World) (hC : Kd.C k69 w A l.length l) (hc : l.length ≤ c) (b : Bool) (hb : l.any (fun s => cellBad s) = b) :
    Calls Tryd.prog 22 #[.slice A l.length c, .func (Fn.func 23) #[] #[]] w fun e w' => e = .returned (.bool b) ∧ Fr w w' [] := by
  have HI := Aside0.mk (indexC_calls A c l w hC hc)
  have HB := Aside0.mk hb
  clear hC hb
  go_enter Tryd.func22, Tryd.ntmps22
  go_wp2_with (first | (go_at_call 30; (refine (HI.out).mono ?_); rintro e w' ⟨⟨i, rfl, hi⟩, hF9⟩; have HF9 := Aside0.mk hF9; clear hF9; have HIF := Aside0.mk hi; clear hi))
  go_ret
  refine ⟨?_, by (with_reducible (repeat (first | exact Fr.refl _ _ | refine Fr.drew ?_ | refine Fr.drewN ?_ _ | refine Fr.alloc ?_ _ | refine Fr.setCell ?_ _ _ ?_))); exact HF9.out⟩
  have h1 := HIF.out
  rw [HB.out] at h1
  cases b
  · have h2 : decide (0 ≤ i) = false := by simpa using h1
    simp [h2]
  · have h2 : decide (0 ≤ i) = true := by simpa using h1
    simp [h2]
end Go.Proofs.YtmfbdmjgkcijcaaDoor.H
