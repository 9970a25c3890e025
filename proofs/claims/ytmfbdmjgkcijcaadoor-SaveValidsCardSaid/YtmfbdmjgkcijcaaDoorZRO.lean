/- The reference's lesser, segment and Is. -/
import Derived.Test.YtmfbdmjgkcijcaaDoorZV
import Derived.Test.YtmfbdmjgkcijcaaDoorZKC
namespace Go.Proofs.YtmfbdmjgkcijcaaDoor.H
open Go.RowKit Go.Proofs.YtmfbdmjgkcijcaaDoorW.PrintWords Go.Proofs.YtmfbdmjgkcijcaaDoorW.PrintLast Go.Proofs.YtmfbdmjgkcijcaaDoorW.PrintMore
open Go.ChangeMaps (setBlock)
attribute [local go_sem] max2_int min2_int max_two min_two max_three min_three max_four min_four
set_option linter.unusedVariables false
set_option linter.unusedSimpArgs false
open Go.Proofs.YtmfbdmjgkcijcaaDoor.M
set_option maxHeartbeats 4000000 in
set_option maxRecDepth 100000 in
theorem lesser_calls (a b : Int) (w : World) : Calls Tryd.prog 26 #[.int .i64 a, .int .i64 b] w fun e w' => e = .returned (.int .i64 (if a < b then a else b)) ∧ Drawn0 w w' := by
  by_cases h : a < b
  · have n1 : decide (a < b) = true := by simpa using h
    rw [if_pos h]
    go_enter Tryd.func26, Tryd.ntmps26
    go_wp2
    go_ret
    exact ⟨rfl, DQ⟩
  · have n1 : decide (a < b) = false := by simpa using h
    rw [if_neg h]
    go_enter Tryd.func26, Tryd.ntmps26
    go_wp2
    go_ret
    exact ⟨rfl, DQ⟩
def SegPost (b : Bool) (w : World) (e : Ending) (w' : World) : Prop := ∃ v : Int, e = .returned (.int .i64 v) ∧ decide (0 ≤ v) = b ∧ Fr w w' []
set_option maxHeartbeats 4000000 in
set_option maxRecDepth 100000 in
theorem segment_calls (A0 : Option Addr) (n0 c0 : Nat) (A1 : Option Addr) (n1 c1 : Nat) (A2 : Option Addr) (n2 c2 : Nat) (hor cel slo sta : Int) (A7 : Option Addr) (c7 : Nat) (days : List S41) (q : Int) (w : World) (hr7 : Kd.C k41 w A7 days.length days) :
    Calls Tryd.prog 27 #[.agg #[.slice A0 n0 c0, .slice A1 n1 c1, .slice A2 n2 c2, .int .i64 hor, .int .i64 cel, .int .i64 slo, .int .i64 sta, .slice A7 days.length c7], .int .i64 q] w (SegPost (segB days q) w) := by
  have HC := Aside0.mk hr7
  have hd63 := Kd.C_max hr7
  clear hr7
  have hup := Tryd.underlying26
  have hut := Tryd.underlying41
  go_enter Tryd.func27, Tryd.ntmps27
  go_upto_region 1 with fail
  refine name_ (fun V => Aside0 (Fr w V []) ∧ Aside0 (V.heap[w.heap.size]? = some (.cells #[.slice A0 n0 c0, .slice A1 n1 c1, .slice A2 n2 c2, .int .i64 hor, .int .i64 cel, .int .i64 slo, .int .i64 sta, .slice A7 days.length c7] 26 (0, 0)))) ⟨⟨FQ⟩, ⟨blk_newN rfl⟩⟩ ?_
  rintro V ⟨HVF, HVX⟩
  go_wp2
  go_loopg [5] days.length (fun kq x wr => ∃ (k : Nat), x = .int .i64 k ∧ k ≤ days.length ∧ Aside0 (days.length - k ≤ kq) ∧ Aside0 (Fr w wr []) ∧ Aside0 (wr.heap[w.heap.size]? = some (.cells #[.slice A0 n0 c0, .slice A1 n1 c1, .slice A2 n2 c2, .int .i64 hor, .int .i64 cel, .int .i64 slo, .int .i64 sta, .slice A7 days.length c7] 26 (0, 0))) ∧ Aside0 (segB (days.take k) q = false))
  case atStart => exact ⟨0, rfl, Nat.zero_le _, ⟨Nat.le_refl _⟩, HVF, HVX, ⟨rfl⟩⟩
  case round =>
    clear HVF HVX
    obtain ⟨k, rfl, hk, HM, HF, HX, HS⟩ := hrel
    have x7 : wr.cell? ⟨w.heap.size, 7, none⟩ = some (.slice A7 days.length c7) := blk_cell HX.out 7
    have hxl := blk_lt HX.out
    by_cases hkl : k < days.length
    · have n3 : decide (k < days.length) = true := by simpa using hkl
      obtain ⟨ad, A8, c8, rfl, h0, _, _, _⟩ := day_at HC.out k hkl
      obtain ⟨x, hx⟩ : ∃ x, days.getD k z41 = x := ⟨_, rfl⟩
      rw [hx] at h0
      have hxm : days[k]? = some x := by rw [List.getD_eq_getElem?_getD, List.getElem?_eq_getElem hkl] at hx; rw [List.getElem?_eq_getElem hkl]; simpa using hx
      have HXM := Aside0.mk hxm
      have g0 := fr_at h0 HF.out (by simp)
      clear h0 hx hxm
      by_cases he : x.f0 = q
      · have n4 : (x.f0 == q) = true := by simpa using he
        have HE : Aside0 (segB days q = true) := ⟨List.any_eq_true.2 ⟨x, List.mem_of_getElem? HXM.out, by simpa using he⟩⟩
        clear he
        go_wp2
        go_ret
        exact ⟨_, rfl, by rw [HE.out]; exact decide_eq_true (Int.natCast_nonneg _), by (with_reducible (repeat (first | exact Fr.refl _ _ | refine Fr.drew ?_ | refine Fr.drewN ?_ _ | refine Fr.alloc ?_ _ | refine Fr.setCell ?_ _ _ ?_))); exact HF.out⟩
      · have n4 : (x.f0 == q) = false := by simpa using he
        have HE : Aside0 (segB (days.take (k + 1)) q = false) := ⟨by
          have := HS.out
          unfold segB at this ⊢
          rw [List.take_add_one, HXM.out, List.any_append, this]
          simp [he]⟩
        clear he
        go_wp2
        go_roundg (days.length - (k + 1))
        case measure => have := HM.out; omega
        case rel => exact ⟨k + 1, by go_num, by omega, ⟨Nat.le_refl _⟩, ⟨by (with_reducible (repeat (first | exact Fr.refl _ _ | refine Fr.drew ?_ | refine Fr.drewN ?_ _ | refine Fr.alloc ?_ _ | refine Fr.setCell ?_ _ _ ?_))); exact HF.out⟩, ⟨by first | exact HX.out | exact blk_drewN HX.out _⟩, HE⟩
    · obtain rfl : k = days.length := by omega
      have n3 : decide (days.length < days.length) = false := by simp
      have hs := HS.out
      rw [List.take_length] at hs
      have HE := Aside0.mk hs
      clear hs HS
      go_wp2
      go_ret
      exact ⟨_, rfl, by rw [HE.out]; decide, by (with_reducible (repeat (first | exact Fr.refl _ _ | refine Fr.drew ?_ | refine Fr.drewN ?_ _ | refine Fr.alloc ?_ _ | refine Fr.setCell ?_ _ _ ?_))); exact HF.out⟩
end Go.Proofs.YtmfbdmjgkcijcaaDoor.H
