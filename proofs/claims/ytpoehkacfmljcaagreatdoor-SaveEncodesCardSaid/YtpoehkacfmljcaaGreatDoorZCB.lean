/- The checksum's table. -/
import Derived.Test.YtpoehkacfmljcaaGreatDoorZV
import Derived.Test.YtpoehkacfmljcaaGreatDoorZUT
import Derived.Test.YtpoehkacfmljcaaGreatDoorZHA
import Derived.Defers
import Derived.Laws.Pointers
import Derived.Laws.LoneSync
import Derived.RegionCalls
import Derived.ChangeAlike
import Derived.Laws.NewBlocks
set_option maxHeartbeats 4000000
set_option maxRecDepth 100000
namespace Go.Proofs.YtpoehkacfmljcaaGreatDoor.H
open Go.RowKit Go.Proofs.YtpoehkacfmljcaaGreatDoorW.PrintWords Go.Proofs.YtpoehkacfmljcaaGreatDoorW.PrintLast Go.Proofs.YtpoehkacfmljcaaGreatDoorW.PrintMore
open Go.ChangeMaps (setBlock)
attribute [local go_sem] max2_int min2_int max_two min_two max_three min_three max_four min_four
set_option linter.unusedVariables false
set_option linter.unusedSimpArgs false
def tabV : List Value := (List.range 16).map fun i => .int .u32 (cval (cf4 (BitVec.ofNat 32 i)))
def tabN (i : Nat) : List Value := tabV.take i ++ List.replicate (16 - i) (.int .u32 0)
theorem tabN_len (i : Nat) (h : i ≤ 16) : (tabN i).length = 16 := by
 have hl : tabV.length = 16 := by simp [tabV]
 unfold tabN
 rw [List.length_append, List.length_take, List.length_replicate, hl]
 omega
theorem tabN_set (i : Nat) (h : i < 16) : (tabN i).toArray.set! i (.int .u32 (cval (cf4 (BitVec.ofNat 32 i)))) = (tabN (i + 1)).toArray := by
 have hl : tabV.length = 16 := by simp [tabV]
 have hg : tabV[i]? = some (.int .u32 (cval (cf4 (BitVec.ofNat 32 i)))) := by simp [tabV, h]
 unfold tabN
 rw [Array.set!_eq_setIfInBounds, List.setIfInBounds_toArray]
 congr 1
 rw [List.set_append_right _ _ (by rw [List.length_take]; omega), List.length_take, hl, show i - min i 16 = 0 by omega, show 16 - i = (16 - (i + 1)) + 1 by omega, List.replicate_succ, List.set_cons_zero, List.take_add_one, hg]
 simp
def cfp : Nat → BitVec 32 → BitVec 32
 | 0, x => x
 | n + 1, x => cf (cfp n x)
theorem bit0_cval (v : BitVec 32) : (Go.bits .and .u32 (cval v) 1 == 1) = v.getLsbD 0 := by
 have h := and_cval v 1#32
 rw [show cval 1#32 = 1 from rfl] at h
 rw [h]
 have e : v &&& 1#32 = cbit (v.getLsbD 0) := by
  apply BitVec.eq_of_getLsbD_eq
  intro i hi
  rw [BitVec.getLsbD_and, BitVec.getLsbD_one]
  cases hv : v.getLsbD 0
  ·by_cases h0 : i = 0
   ·subst h0; rw [hv]; rfl
   ·simp [h0, cbit]
  ·by_cases h0 : i = 0
   ·subst h0; simp [hv, cbit]
   ·simp [h0, cbit, BitVec.getLsbD_one]
 rw [e]
 cases v.getLsbD 0 <;> decide
theorem cf_one (v : BitVec 32) (h : v.getLsbD 0 = true) : Go.bits .xor .u32 (cval v / (2 : Int)) 3988292384 = cval (cf v) := by
 have e := xor_cval (v >>> 1) cpol
 rw [show cval cpol = 3988292384 from rfl, ← shr1_cval] at e
 rw [e]
 unfold cf
 rw [if_pos h]
theorem cf_zero (v : BitVec 32) (h : v.getLsbD 0 = false) : cval v / (2 : Int) = cval (cf v) := by
 rw [shr1_cval]
 unfold cf
 rw [if_neg (by rw [h]; decide)]
 simp
theorem halves_calls (w : World) : Calls Tryz.prog 37 #[] w fun e w' => e = .returned (.agg tabV.toArray) ∧ Fr w w' [] := by
 have hua := Tryz.underlying91
 go_enter Tryz.func37, Tryz.ntmps37
 go_upto_region 2 with fail
 refine name_' (fun V => Aside0 (Fr w V []) ∧ Aside0 (V.heap[w.heap.size]? = some (.cells (tabN 0).toArray 91 (0, 0))) ∧ Aside0 (V.heap[w.heap.size + 1]? = some (.cells (tabN 0).toArray 91 (0, 0)))) ⟨⟨FQ⟩, ⟨blk_alloc (blk_newN rfl) _⟩, ⟨blk_newN (by simp)⟩⟩ ?_
 rintro V ⟨HVF, HVR, HVT⟩
 go_wp2
 go_loopg [4] 16 (fun kq s4 wr => ∃ (i : Nat), s4 = .int .i64 i ∧ i ≤ 16 ∧ Aside0 (16 - i ≤ kq) ∧ Aside0 (Fr w wr []) ∧ Aside0 (wr.heap[w.heap.size]? = some (.cells (tabN 0).toArray 91 (0, 0))) ∧ Aside0 (wr.heap[w.heap.size + 1]? = some (.cells (tabN i).toArray 91 (0, 0))))
 case atStart => exact ⟨0, rfl, Nat.zero_le _, ⟨Nat.le_refl _⟩, HVF, HVR, HVT⟩
 case round =>
  clear HVF HVR HVT
  obtain ⟨i, rfl, hi, HM, HF, HR, HT⟩ := hrel
  have htl := blk_lt HT.out
  by_cases hil : i < 16
  ·have n3 : decide ((i : Int) < 16) = true := by simp; omega
   have hcv : IntKind.u32.wrap (i : Int) = cval (BitVec.ofNat 32 i) := by
    rw [← cval_back, BitVec.toNat_ofNat, Nat.mod_eq_of_lt (by omega)]
   go_wp2
   go_loopg [3, 9] 4 (fun kq s3 s9 wi => ∃ (j : Nat), s3 = .int .u32 (cval (cfp j (BitVec.ofNat 32 i))) ∧ s9 = .int .i64 j ∧ j ≤ 4 ∧ Aside0 (4 - j ≤ kq) ∧ Aside0 (Fr w wi []) ∧ Aside0 (wi.heap[w.heap.size]? = some (.cells (tabN 0).toArray 91 (0, 0))) ∧ Aside0 (wi.heap[w.heap.size + 1]? = some (.cells (tabN i).toArray 91 (0, 0))))
   case atStart => exact ⟨0, by first | rfl | exact congrArg (Value.int .u32) hcv, rfl, Nat.zero_le _, ⟨Nat.le_refl _⟩, HF, HR, HT⟩
   case round =>
    clear HF HR HT htl
    obtain ⟨j, rfl, rfl, hj, HM2, HF, HR, HT⟩ := hrel
    have htl := blk_lt HT.out
    by_cases hjl : j < 4
    ·have n4 : decide ((j : Int) < 4) = true := by simp; omega
     obtain ⟨x, hx⟩ : ∃ x, cfp j (BitVec.ofNat 32 i) = x := ⟨_, rfl⟩
     have HXJ : Aside0 (cfp (j + 1) (BitVec.ofNat 32 i) = cf x) := ⟨by rw [← hx]; rfl⟩
     rw [hx]
     clear hx
     have hb := bit0_cval x
     cases hv : x.getLsbD 0
     ·rw [hv] at hb
      have HE := AsM (cf_zero x hv)
      clear hv
      go_wp2
      go_roundg (4 - (j + 1))
      case measure => have := HM2.out; omega
      case rel => exact ⟨j + 1, by rw [HXJ.out]; exact congrArg (Value.int .u32) HE.out, by go_num, by omega, ⟨Nat.le_refl _⟩, HF, HR, HT⟩
     ·rw [hv] at hb
      have HE := AsM (cf_one x hv)
      clear hv
      go_wp2
      go_roundg (4 - (j + 1))
      case measure => have := HM2.out; omega
      case rel => exact ⟨j + 1, by rw [HXJ.out]; exact congrArg (Value.int .u32) HE.out, by go_num, by omega, ⟨Nat.le_refl _⟩, HF, HR, HT⟩
    ·obtain rfl : j = 4 := by omega
     have n4 : decide (((4 : Nat) : Int) < 4) = false := by decide
     have t0 := blk_cell HT.out i
     rw [List.getElem?_toArray, List.getElem?_eq_getElem (show i < (tabN i).length by rw [tabN_len i (by omega)]; omega)] at t0
     have z0 := blk_frozen HT.out i
     go_wp2
     go_roundg (16 - (i + 1))
     case measure => have := HM.out; omega
     case rel => exact ⟨i + 1, by go_num, by omega, ⟨Nat.le_refl _⟩, ⟨HF.out.setCell _ _ (.inr (by simp))⟩, ⟨at_far HR.out (by simp) _⟩, ⟨blk_to (blk_set HT.out i _) (tabN_set i hil)⟩⟩
  ·obtain rfl : i = 16 := by omega
   have n3 : decide (((16 : Nat) : Int) < 16) = false := by decide
   have e16 : tabN 16 = tabV := by
    unfold tabN
    rw [List.take_of_length_le (by simp [tabV])]
    simp
   have ht := HT.out
   rw [e16] at ht
   have r := HR.out
   have hrl := blk_lt r
   have t0 : wr.cell? ⟨w.heap.size + 1, 0, none⟩ = some (.int .u32 (cval (cf4 (BitVec.ofNat 32 0)))) := (blk_cell ht 0).trans rfl
   have q0 := blk_frozen r 0
   have r0 : wr.cell? ⟨w.heap.size, 0, none⟩ = some (.int .u32 0) := (blk_cell r 0).trans rfl
   have t1 : wr.cell? ⟨w.heap.size + 1, 1, none⟩ = some (.int .u32 (cval (cf4 (BitVec.ofNat 32 1)))) := (blk_cell ht 1).trans rfl
   have q1 := blk_frozen r 1
   have r1 : wr.cell? ⟨w.heap.size, 1, none⟩ = some (.int .u32 0) := (blk_cell r 1).trans rfl
   have t2 : wr.cell? ⟨w.heap.size + 1, 2, none⟩ = some (.int .u32 (cval (cf4 (BitVec.ofNat 32 2)))) := (blk_cell ht 2).trans rfl
   have q2 := blk_frozen r 2
   have r2 : wr.cell? ⟨w.heap.size, 2, none⟩ = some (.int .u32 0) := (blk_cell r 2).trans rfl
   have t3 : wr.cell? ⟨w.heap.size + 1, 3, none⟩ = some (.int .u32 (cval (cf4 (BitVec.ofNat 32 3)))) := (blk_cell ht 3).trans rfl
   have q3 := blk_frozen r 3
   have r3 : wr.cell? ⟨w.heap.size, 3, none⟩ = some (.int .u32 0) := (blk_cell r 3).trans rfl
   have t4 : wr.cell? ⟨w.heap.size + 1, 4, none⟩ = some (.int .u32 (cval (cf4 (BitVec.ofNat 32 4)))) := (blk_cell ht 4).trans rfl
   have q4 := blk_frozen r 4
   have r4 : wr.cell? ⟨w.heap.size, 4, none⟩ = some (.int .u32 0) := (blk_cell r 4).trans rfl
   have t5 : wr.cell? ⟨w.heap.size + 1, 5, none⟩ = some (.int .u32 (cval (cf4 (BitVec.ofNat 32 5)))) := (blk_cell ht 5).trans rfl
   have q5 := blk_frozen r 5
   have r5 : wr.cell? ⟨w.heap.size, 5, none⟩ = some (.int .u32 0) := (blk_cell r 5).trans rfl
   have t6 : wr.cell? ⟨w.heap.size + 1, 6, none⟩ = some (.int .u32 (cval (cf4 (BitVec.ofNat 32 6)))) := (blk_cell ht 6).trans rfl
   have q6 := blk_frozen r 6
   have r6 : wr.cell? ⟨w.heap.size, 6, none⟩ = some (.int .u32 0) := (blk_cell r 6).trans rfl
   have t7 : wr.cell? ⟨w.heap.size + 1, 7, none⟩ = some (.int .u32 (cval (cf4 (BitVec.ofNat 32 7)))) := (blk_cell ht 7).trans rfl
   have q7 := blk_frozen r 7
   have r7 : wr.cell? ⟨w.heap.size, 7, none⟩ = some (.int .u32 0) := (blk_cell r 7).trans rfl
   have t8 : wr.cell? ⟨w.heap.size + 1, 8, none⟩ = some (.int .u32 (cval (cf4 (BitVec.ofNat 32 8)))) := (blk_cell ht 8).trans rfl
   have q8 := blk_frozen r 8
   have r8 : wr.cell? ⟨w.heap.size, 8, none⟩ = some (.int .u32 0) := (blk_cell r 8).trans rfl
   have t9 : wr.cell? ⟨w.heap.size + 1, 9, none⟩ = some (.int .u32 (cval (cf4 (BitVec.ofNat 32 9)))) := (blk_cell ht 9).trans rfl
   have q9 := blk_frozen r 9
   have r9 : wr.cell? ⟨w.heap.size, 9, none⟩ = some (.int .u32 0) := (blk_cell r 9).trans rfl
   have t10 : wr.cell? ⟨w.heap.size + 1, 10, none⟩ = some (.int .u32 (cval (cf4 (BitVec.ofNat 32 10)))) := (blk_cell ht 10).trans rfl
   have q10 := blk_frozen r 10
   have r10 : wr.cell? ⟨w.heap.size, 10, none⟩ = some (.int .u32 0) := (blk_cell r 10).trans rfl
   have t11 : wr.cell? ⟨w.heap.size + 1, 11, none⟩ = some (.int .u32 (cval (cf4 (BitVec.ofNat 32 11)))) := (blk_cell ht 11).trans rfl
   have q11 := blk_frozen r 11
   have r11 : wr.cell? ⟨w.heap.size, 11, none⟩ = some (.int .u32 0) := (blk_cell r 11).trans rfl
   have t12 : wr.cell? ⟨w.heap.size + 1, 12, none⟩ = some (.int .u32 (cval (cf4 (BitVec.ofNat 32 12)))) := (blk_cell ht 12).trans rfl
   have q12 := blk_frozen r 12
   have r12 : wr.cell? ⟨w.heap.size, 12, none⟩ = some (.int .u32 0) := (blk_cell r 12).trans rfl
   have t13 : wr.cell? ⟨w.heap.size + 1, 13, none⟩ = some (.int .u32 (cval (cf4 (BitVec.ofNat 32 13)))) := (blk_cell ht 13).trans rfl
   have q13 := blk_frozen r 13
   have r13 : wr.cell? ⟨w.heap.size, 13, none⟩ = some (.int .u32 0) := (blk_cell r 13).trans rfl
   have t14 : wr.cell? ⟨w.heap.size + 1, 14, none⟩ = some (.int .u32 (cval (cf4 (BitVec.ofNat 32 14)))) := (blk_cell ht 14).trans rfl
   have q14 := blk_frozen r 14
   have r14 : wr.cell? ⟨w.heap.size, 14, none⟩ = some (.int .u32 0) := (blk_cell r 14).trans rfl
   have t15 : wr.cell? ⟨w.heap.size + 1, 15, none⟩ = some (.int .u32 (cval (cf4 (BitVec.ofNat 32 15)))) := (blk_cell ht 15).trans rfl
   have q15 := blk_frozen r 15
   have r15 : wr.cell? ⟨w.heap.size, 15, none⟩ = some (.int .u32 0) := (blk_cell r 15).trans rfl
   go_wp2
   refine bodyPost_ret (results_cell_row rfl _ _ w.heap.size 91 tabV.toArray (0, 0) _ rfl ?hb hua rfl rfl) rfl ?_
   case hb => exact blk_to (blk_set (blk_set (blk_set (blk_set (blk_set (blk_set (blk_set (blk_set (blk_set (blk_set (blk_set (blk_set (blk_set (blk_set (blk_set (blk_set r 0 _) 1 _) 2 _) 3 _) 4 _) 5 _) 6 _) 7 _) 8 _) 9 _) 10 _) 11 _) 12 _) 13 _) 14 _) 15 _) rfl
   exact ⟨rfl, by (with_reducible (repeat (first | exact Fr.refl _ _ | refine Fr.drew ?_ | refine Fr.drewN ?_ _ | refine Fr.alloc ?_ _ | refine Fr.setCell ?_ _ _ ?_))) <;> first | exact HF.out | exact .inr (Nat.le_refl _)⟩
theorem disable_run (w : World) : (callFunc 140 #[]).run Tryz.prog w = .ok (.value (.tuple #[])) w := run_call_mark0 Tryz.func140 (by kernel_rfl) (by kernel_rfl) (by kernel_rfl) .disable (by kernel_rfl) w
theorem enable_run (w : World) : (callFunc 142 #[]).run Tryz.prog w = .ok (.value (.tuple #[])) w := run_call_mark0 Tryz.func142 (by kernel_rfl) (by kernel_rfl) (by kernel_rfl) .enable (by kernel_rfl) w
theorem acquire_run (a : Addr) (w : World) : (callFunc 143 #[.pointer (some a)]).run Tryz.prog w = .ok (.value (.tuple #[])) w := run_call_marked Tryz.func143 (by kernel_rfl) (by kernel_rfl) (by kernel_rfl) .acquire (by kernel_rfl) a w
theorem release_run (a : Addr) (w : World) : (callFunc 145 #[.pointer (some a)]).run Tryz.prog w = .ok (.value (.tuple #[])) w := run_call_marked Tryz.func145 (by kernel_rfl) (by kernel_rfl) (by kernel_rfl) .releaseMerge (by kernel_rfl) a w
theorem store_deferred (a : Addr) (x : Value) (u : FrameMode) (w : World) (hc : w.cell? a = some x) (hz : w.frozen? a = false) :
  CallsD Tryz.prog 83 #[.pointer (some a), .bool true] u w fun e u' w' => u' = u ∧ (e = .returned (.tuple #[]) ∧ w' = w.drew.setCell a (.int .u32 1)) := by
 have hc' : w.drew.cell? a = some x := by go_simp
 have hz' : w.drew.frozen? a = false := by go_simp
 have hst := run_call_store (P := Tryz.prog) Tryz.func114 (by kernel_rfl) (by kernel_rfl) (by kernel_rfl) (by kernel_rfl) (k := .u32) (y := 1) hc' hz'
 go_enter_d Tryz.func83, Tryz.ntmps83
 go_wp2
 go_region_calls
 all_goals (go_end0; exact ⟨rfl, rfl⟩)
theorem unlock_deferred (a : Addr) (u : FrameMode) (w : World) (hc : w.cell? a = some (.int .i32 1)) (hz : w.frozen? a = false) :
  CallsD Tryz.prog 82 #[.pointer (some a)] u w fun e u' w' => u' = u ∧ (e = .returned (.tuple #[]) ∧ w' = w.setCell a (.int .i32 0)) := by
 have hd := disable_run
 have he := enable_run
 have hr := release_run
 have hadd := run_call_add (P := Tryz.prog) Tryz.func146 (by kernel_rfl) (by kernel_rfl) (by kernel_rfl) .i32 (by kernel_rfl) (y := -1) (s := 0) hc hz (by simp [go_sem]; rfl)
 have hcv := run_convert_to_unsafe (P := Tryz.prog) (src := 221) (dst := 225) Tryz.underlying221 Tryz.underlying225 (by kernel_rfl) hc
 go_enter_d Tryz.func82, Tryz.ntmps82
 go_wp2
 go_end0
 go_wp2
 go_end0
 exact ⟨rfl, rfl⟩
theorem lock_free (a : Addr) (w : World) (hc : w.cell? a = some (.int .i32 0)) (hz : w.frozen? a = false) :
  Calls Tryz.prog 81 #[.pointer (some a)] w fun e w' => e = .returned (.tuple #[]) ∧ w' = w.setCell a (.int .i32 1) := by
 have hd := disable_run
 have he := enable_run
 have ha := acquire_run
 have hcas := run_call_cas_hit (P := Tryz.prog) Tryz.func141 (by kernel_rfl) (by kernel_rfl) (by kernel_rfl) .i32 (by kernel_rfl) (y := 1) hc hz
 have hc' : (w.setCell a (.int .i32 1)).cell? a = some (.int .i32 1) := World.cell?_setCell_same w a _ hc
 have hcv := run_convert_to_unsafe (P := Tryz.prog) (src := 221) (dst := 225) Tryz.underlying221 Tryz.underlying225 (by kernel_rfl) hc'
 go_enter Tryz.func81, Tryz.ntmps81
 go_wp2
 first | go_end0 | (simp only [Exit.inBlock, Exit.then]; refine bodyPost_ret (results_none rfl _ _ _) rfl ?_) | refine bodyPost_ret (results_none rfl _ _ _) rfl ?_
 go_wp2
 go_end0
 exact ⟨rfl, rfl⟩
def onceC (d : Int) : Array Value := #[.int .u32 d, .int .i32 0, .int .u32 0]
theorem tabV_eq : tabV.toArray = #[.int .u32 (cval (cf4 (BitVec.ofNat 32 0))), .int .u32 (cval (cf4 (BitVec.ofNat 32 1))), .int .u32 (cval (cf4 (BitVec.ofNat 32 2))), .int .u32 (cval (cf4 (BitVec.ofNat 32 3))), .int .u32 (cval (cf4 (BitVec.ofNat 32 4))), .int .u32 (cval (cf4 (BitVec.ofNat 32 5))), .int .u32 (cval (cf4 (BitVec.ofNat 32 6))), .int .u32 (cval (cf4 (BitVec.ofNat 32 7))), .int .u32 (cval (cf4 (BitVec.ofNat 32 8))), .int .u32 (cval (cf4 (BitVec.ofNat 32 9))), .int .u32 (cval (cf4 (BitVec.ofNat 32 10))), .int .u32 (cval (cf4 (BitVec.ofNat 32 11))), .int .u32 (cval (cf4 (BitVec.ofNat 32 12))), .int .u32 (cval (cf4 (BitVec.ofNat 32 13))), .int .u32 (cval (cf4 (BitVec.ofNat 32 14))), .int .u32 (cval (cf4 (BitVec.ofNat 32 15)))] := rfl
def TabP (tb : Nat) (w : World) (e : Ending) (w' : World) : Prop := e = .returned (.tuple #[]) ∧ Fr w w' [tb] ∧ w'.heap[tb]? = some (.cells tabV.toArray 91 (0, 0))
theorem crc1_calls (tb : Nat) (w : World) (ht : w.heap[tb]? = some (.cells (tabN 0).toArray 91 (0, 0))) : Calls Tryz.prog 36 #[.pointer (some ⟨tb, 0, none⟩)] w (TabP tb w) := by
 have HT := AsM ht
 have hua := Tryz.underlying91
 go_enter Tryz.func36, Tryz.ntmps36
 go_wp2_with (first | (go_at_call 37; (refine (halves_calls _).mono ?_); rintro e W1 ⟨rfl, hF1⟩; rw [tabV_eq]; have HF1 := AsM hF1; have HT1 := AsM (hF1.blk HT.out (by simp)); have t0 : W1.cell? ⟨tb, 0, none⟩ = some (.int .u32 0) := (blk_cell HT1.out 0).trans rfl; have z0 := blk_frozen HT1.out 0; have t1 : W1.cell? ⟨tb, 1, none⟩ = some (.int .u32 0) := (blk_cell HT1.out 1).trans rfl; have z1 := blk_frozen HT1.out 1; have t2 : W1.cell? ⟨tb, 2, none⟩ = some (.int .u32 0) := (blk_cell HT1.out 2).trans rfl; have z2 := blk_frozen HT1.out 2; have t3 : W1.cell? ⟨tb, 3, none⟩ = some (.int .u32 0) := (blk_cell HT1.out 3).trans rfl; have z3 := blk_frozen HT1.out 3; have t4 : W1.cell? ⟨tb, 4, none⟩ = some (.int .u32 0) := (blk_cell HT1.out 4).trans rfl; have z4 := blk_frozen HT1.out 4; have t5 : W1.cell? ⟨tb, 5, none⟩ = some (.int .u32 0) := (blk_cell HT1.out 5).trans rfl; have z5 := blk_frozen HT1.out 5; have t6 : W1.cell? ⟨tb, 6, none⟩ = some (.int .u32 0) := (blk_cell HT1.out 6).trans rfl; have z6 := blk_frozen HT1.out 6; have t7 : W1.cell? ⟨tb, 7, none⟩ = some (.int .u32 0) := (blk_cell HT1.out 7).trans rfl; have z7 := blk_frozen HT1.out 7; have t8 : W1.cell? ⟨tb, 8, none⟩ = some (.int .u32 0) := (blk_cell HT1.out 8).trans rfl; have z8 := blk_frozen HT1.out 8; have t9 : W1.cell? ⟨tb, 9, none⟩ = some (.int .u32 0) := (blk_cell HT1.out 9).trans rfl; have z9 := blk_frozen HT1.out 9; have t10 : W1.cell? ⟨tb, 10, none⟩ = some (.int .u32 0) := (blk_cell HT1.out 10).trans rfl; have z10 := blk_frozen HT1.out 10; have t11 : W1.cell? ⟨tb, 11, none⟩ = some (.int .u32 0) := (blk_cell HT1.out 11).trans rfl; have z11 := blk_frozen HT1.out 11; have t12 : W1.cell? ⟨tb, 12, none⟩ = some (.int .u32 0) := (blk_cell HT1.out 12).trans rfl; have z12 := blk_frozen HT1.out 12; have t13 : W1.cell? ⟨tb, 13, none⟩ = some (.int .u32 0) := (blk_cell HT1.out 13).trans rfl; have z13 := blk_frozen HT1.out 13; have t14 : W1.cell? ⟨tb, 14, none⟩ = some (.int .u32 0) := (blk_cell HT1.out 14).trans rfl; have z14 := blk_frozen HT1.out 14; have t15 : W1.cell? ⟨tb, 15, none⟩ = some (.int .u32 0) := (blk_cell HT1.out 15).trans rfl; have z15 := blk_frozen HT1.out 15; clear hF1))
 go_end0
 exact ⟨rfl, by (with_reducible (repeat (first | exact Fr.refl _ _ | refine Fr.drew ?_ | refine Fr.drewN ?_ _ | refine Fr.alloc ?_ _ | refine Fr.setCell ?_ _ _ ?_))) <;> first | exact HF1.out.mono (by simp) | simp, blk_to (blk_set (blk_set (blk_set (blk_set (blk_set (blk_set (blk_set (blk_set (blk_set (blk_set (blk_set (blk_set (blk_set (blk_set (blk_set (blk_set HT1.out 0 _) 1 _) 2 _) 3 _) 4 _) 5 _) 6 _) 7 _) 8 _) 9 _) 10 _) 11 _) 12 _) 13 _) 14 _) 15 _) rfl⟩
def OncePost (ob tb : Nat) (w : World) (e : Ending) (w' : World) : Prop := e = .returned (.tuple #[]) ∧ Fr w w' [ob, tb] ∧ w'.heap[ob]? = some (.cells (onceC 1) 90 (0, 0)) ∧ w'.heap[tb]? = some (.cells tabV.toArray 91 (0, 0))
theorem slow_calls (ob tb : Nat) (hne : ob ≠ tb) (w : World) (ho : w.heap[ob]? = some (.cells (onceC 0) 90 (0, 0))) (ht : w.heap[tb]? = some (.cells (tabN 0).toArray 91 (0, 0))) :
  Calls Tryz.prog 56 #[.pointer (some ⟨ob, 0, none⟩), .func (.func 36) #[] #[.pointer (some ⟨tb, 0, none⟩)]] w (OncePost ob tb w) := by
 have o0 : w.cell? ⟨ob, 0, none⟩ = some (.int .u32 0) := blk_cell ho 0
 have o1 : w.cell? ⟨ob, 1, none⟩ = some (.int .i32 0) := blk_cell ho 1
 have f0 := blk_frozen ho 0
 have f1 := blk_frozen ho 1
 have hol := blk_lt ho
 have HO := AsM ho
 have HT := AsM ht
 have HNE := AsM hne
 have HO1 : Aside0 ((w.setCell ⟨ob, 1, none⟩ (.int .i32 1)).heap[ob]? = some (.cells #[.int .u32 0, .int .i32 1, .int .u32 0] 90 (0, 0))) := ⟨blk_to (blk_set ho 1 _) rfl⟩
 have HT1 : Aside0 ((w.setCell ⟨ob, 1, none⟩ (.int .i32 1)).heap[tb]? = some (.cells (tabN 0).toArray 91 (0, 0))) := ⟨at_far ht (fun h => hne h.symm) _⟩
 have hl := run_call_load (P := Tryz.prog) Tryz.func80 (by kernel_rfl) (by kernel_rfl) (by kernel_rfl) .u32 (by kernel_rfl) (w := w.setCell ⟨ob, 1, none⟩ (.int .i32 1)) (a := ⟨ob, 0, none⟩) (x := 0) ((World.cell?_setCell_other _ ⟨ob, 1, none⟩ ⟨ob, 0, none⟩ _ (by simp)).trans o0)
 have hnot : ∀ (x : Bool) (w : World), (Op.unary .not (.bool x)).run Tryz.prog w = .ok (.bool (!x)) w := fun _ _ => rfl
 clear ho ht hne
 go_enter_defers Tryz.func56, Tryz.ntmps56
 go_wp2_with (first | (go_at_call 81; refine (lock_free ⟨ob, 1, none⟩ _ (by go_simp) (by go_simp)).mono ?_; rintro e w' ⟨rfl, rfl⟩) | (go_at_call 55; go_in) | (go_at_call 36; refine (crc1_calls tb _ HT1.out).mono ?_; rintro e W3 ⟨rfl, hF3, hT3⟩; have HT3 := AsM hT3; have HF3 := AsM hF3; clear hF3 hT3))
 have HO3 := AsM (HF3.out.blk HO1.out (by simpa using HNE.out))
 have o30 : W3.cell? ⟨ob, 0, none⟩ = some (.int .u32 0) := blk_cell HO3.out 0
 have z30 := blk_frozen HO3.out 0
 have HO4 : Aside0 ((W3.drew.setCell ⟨ob, 0, none⟩ (.int .u32 1)).heap[ob]? = some (.cells #[.int .u32 1, .int .i32 1, .int .u32 0] 90 (0, 0))) := ⟨blk_to (blk_set (blk_drew HO3.out) 0 _) rfl⟩
 refine leaves_cons (f := 83) (args := #[.pointer (some ⟨ob, 0, none⟩), .bool true]) (by simp) (by simp [go_sem]) ?_
 refine (store_deferred ⟨ob, 0, none⟩ (.int .u32 0) .returning _ o30 z30).mono ?_
 rintro e u' w'' ⟨rfl, rfl, rfl⟩
 refine leaves_cons (f := 82) (args := #[.pointer (some ⟨ob, 1, none⟩)]) (by simp [settle]) (by simp [go_sem]) ?_
 refine (unlock_deferred ⟨ob, 1, none⟩ _ _ (blk_cell HO4.out 1) (blk_frozen HO4.out 1)).mono ?_
 rintro e u' w'' ⟨rfl, rfl, rfl⟩
 have hpost : OncePost ob tb w (.returned (.tuple #[])) ((W3.drew.setCell ⟨ob, 0, none⟩ (.int .u32 1)).setCell ⟨ob, 1, none⟩ (.int .i32 0)) := by
  refine ⟨rfl, ?_, blk_to (blk_set HO4.out 1 _) rfl, at_far (at_far (blk_drew HT3.out) (fun h => HNE.out h.symm) _) (fun h => HNE.out h.symm) _⟩
  refine Fr.setCell (Fr.setCell (Fr.drew ?_) _ _ (.inl (by simp))) _ _ (.inl (by simp))
  exact Fr.trans (M := [tb]) (Fr.setCell (Fr.refl _ _) _ _ (.inl (by simp))) HF3.out (fun i hi => .inl (by simp at hi; simp [hi]))
 simpa [Leaves, settle, results, Tryz.results56] using hpost
theorem do_first (ob tb : Nat) (hne : ob ≠ tb) (w : World) (ho : w.heap[ob]? = some (.cells (onceC 0) 90 (0, 0))) (ht : w.heap[tb]? = some (.cells (tabN 0).toArray 91 (0, 0))) :
  Calls Tryz.prog 35 #[.pointer (some ⟨ob, 0, none⟩), .func (.func 36) #[] #[.pointer (some ⟨tb, 0, none⟩)]] w (OncePost ob tb w) := by
 have o0 : w.cell? ⟨ob, 0, none⟩ = some (.int .u32 0) := blk_cell ho 0
 have hl := run_call_load (P := Tryz.prog) Tryz.func80 (by kernel_rfl) (by kernel_rfl) (by kernel_rfl) .u32 (by kernel_rfl) o0
 have hnot : ∀ (x : Bool) (w : World), (Op.unary .not (.bool x)).run Tryz.prog w = .ok (.bool (!x)) w := fun _ _ => rfl
 have HS := AsM (slow_calls ob tb hne w ho ht)
 clear ho ht hne
 go_enter Tryz.func35, Tryz.ntmps35
 go_wp2_with (first | (go_at_call 56; refine HS.out.mono ?_; rintro e w' ⟨rfl, hF, h1, h2⟩; have HF := AsM hF; have H1 := AsM h1; have H2 := AsM h2; clear hF h1 h2) | (go_at_call 55; go_in))
 go_end0
 exact ⟨rfl, HF.out, H1.out, H2.out⟩
theorem do_done (ob : Nat) (fv : Value) (w : World) (ho : w.heap[ob]? = some (.cells (onceC 1) 90 (0, 0))) :
  Calls Tryz.prog 35 #[.pointer (some ⟨ob, 0, none⟩), fv] w fun e w' => e = .returned (.tuple #[]) ∧ w' = w := by
 have o0 : w.cell? ⟨ob, 0, none⟩ = some (.int .u32 1) := blk_cell ho 0
 have hl := run_call_load (P := Tryz.prog) Tryz.func80 (by kernel_rfl) (by kernel_rfl) (by kernel_rfl) .u32 (by kernel_rfl) o0
 have hnot : ∀ (x : Bool) (w : World), (Op.unary .not (.bool x)).run Tryz.prog w = .ok (.bool (!x)) w := fun _ _ => rfl
 clear ho
 go_enter Tryz.func35, Tryz.ntmps35
 go_wp2
 go_end0
 exact ⟨rfl, rfl⟩
theorem u8_at {w : World} {A : Option Addr} {n : Nat} {xs : List Int} (h : Kd.C (Kd.int .u8) w A n xs) (k : Nat) (hk : k < n) : ∃ ad, A = some ad ∧ w.cell? (ad.add k) = some (.int .u8 (xs.getD k 0)) := by
 obtain ⟨ad, c, e, hl, hr, hc⟩ := ReadsRow.get_ h 0 (k : Int) (by omega) (by omega)
 simp only [Int.toNat_natCast] at hr hc
 have hr' : c = [.int .u8 (xs.getD k 0)] := hr
 subst hr'
 refine ⟨ad, e, ?_⟩
 have := hc 0 _ rfl
 simpa [Kd.int, Kd.scalar] using this
theorem idx_cval (v : BitVec 32) : (cval (v &&& 15#32)).toNat < 16 := by
 unfold cval
 rw [BitVec.toNat_and, Int.toNat_natCast]
 exact Nat.lt_of_le_of_lt (Nat.and_le_right) (by decide)
theorem tab_at (j : Nat) (h : j < 16) : tabV.toArray[j]? = some (.int .u32 (cval (cf4 (BitVec.ofNat 32 j)))) := by simp [tabV, h]
theorem half_cval (v : BitVec 32) : Go.bits .xor .u32 (cval (cf4 (v &&& 15#32))) (cval v / (16 : Int)) = cval (cf4 v) := by
 rw [shr4_cval, xor_cval, ← cf4_split]
theorem and15_cval (v : BitVec 32) : Go.bits .and .u32 (cval v) 15 = cval (v &&& 15#32) := by
 have := and_cval v 15#32
 exact this
theorem tab_cell {W : World} {tb : Nat} (h : W.heap[tb]? = some (.cells tabV.toArray 91 (0, 0))) (v : BitVec 32) : W.cell? ⟨tb, (cval (v &&& 15#32)).toNat, none⟩ = some (.int .u32 (cval (cf4 (v &&& 15#32)))) := by
 rw [blk_cell h, tab_at _ (idx_cval v)]
 congr 4
 unfold cval
 rw [Int.toNat_natCast, BitVec.ofNat_toNat, BitVec.setWidth_eq]
theorem not_cval (v : BitVec 32) : Go.bits .xor .u32 IntKind.u32.max (cval v) = cval (~~~v) := by
 have h := xor_cval (BitVec.allOnes 32) v
 rw [show cval (BitVec.allOnes 32) = IntKind.u32.max from rfl] at h
 rw [h, BitVec.xor_comm, BitVec.xor_allOnes]
def crcN (l : List Int) (k : Nat) : BitVec 32 := (l.take k).foldl crcStep (BitVec.allOnes 32)
theorem crc_calls (A : Option Addr) (c : Nat) (l : List Int) (w : World) (hr : Kd.C (Kd.int .u8) w A l.length l) (hb : ∀ x ∈ l, 0 ≤ x ∧ x < 256) :
  Calls Tryz.prog 22 #[.slice A l.length c] w fun e w' => e = .returned (.int .u32 (cval (crcL l))) ∧ Fr w w' [] := by
 have HR := AsM hr
 have HBY := AsM hb
 have hl63 := Kd.C_max hr
 clear hr hb
 have hua := Tryz.underlying91
 have huo := Tryz.underlying90
 have hmf : ∀ (fn : Fn) (first cap : Array Value) (w : World), (Instr.makeFunc fn first cap).run Tryz.prog w = .ok (.func fn first cap) w := fun _ _ _ _ => rfl
 go_enter Tryz.func22, Tryz.ntmps22
 go_upto_region 4 with fail
 refine name_' (fun V => Aside0 (Fr w V []) ∧ Aside0 (V.heap[w.heap.size]? = some (.cells (onceC 0) 90 (0, 0))) ∧ Aside0 (V.heap[w.heap.size + 1]? = some (.cells (tabN 0).toArray 91 (0, 0)))) ⟨⟨FQ⟩, ⟨blk_alloc (blk_newN rfl) _⟩, ⟨blk_newN (by simp)⟩⟩ ?_
 rintro V ⟨HVF, HVO, HVT⟩
 go_wp2
 go_loopg [5, 10] l.length (fun kq s5 s10 wr => ∃ (k : Nat), s5 = .int .u32 (cval (crcN l k)) ∧ s10 = .int .i64 k ∧ k ≤ l.length ∧ Aside0 (l.length - k ≤ kq) ∧ Aside0 (Fr w wr []) ∧ Aside0 (k = 0 ∧ wr.heap[w.heap.size]? = some (.cells (onceC 0) 90 (0, 0)) ∧ wr.heap[w.heap.size + 1]? = some (.cells (tabN 0).toArray 91 (0, 0)) ∨ wr.heap[w.heap.size]? = some (.cells (onceC 1) 90 (0, 0)) ∧ wr.heap[w.heap.size + 1]? = some (.cells tabV.toArray 91 (0, 0))))
 case atStart => exact ⟨0, rfl, rfl, Nat.zero_le _, ⟨Nat.le_refl _⟩, HVF, ⟨.inl ⟨rfl, HVO.out, HVT.out⟩⟩⟩
 case round =>
  clear HVF HVO HVT
  obtain ⟨k, rfl, rfl, hk, HM, HF, HST⟩ := hrel
  by_cases hkl : k < l.length
  ·have n3 : decide (k < l.length) = true := by simpa using hkl
   obtain ⟨ad, rfl, g0⟩ := u8_at (Kd.C_below HR.out HF.out.below) k hkl
   obtain ⟨x, hx⟩ : ∃ x, l.getD k 0 = x := ⟨_, rfl⟩
   rw [hx] at g0
   have hxm : l[k]? = some x := by rw [List.getD_eq_getElem?_getD, List.getElem?_eq_getElem hkl] at hx; rw [List.getElem?_eq_getElem hkl]; simpa using hx
   have hxr := HBY.out x (List.mem_of_getElem? hxm)
   have HDO : Aside0 (Calls Tryz.prog 35 #[.pointer (some ⟨w.heap.size, 0, none⟩), .func (.func 36) #[] #[.pointer (some ⟨w.heap.size + 1, 0, none⟩)]] wr fun e w' => e = .returned (.tuple #[]) ∧ Fr w w' [] ∧ w'.heap[w.heap.size]? = some (.cells (onceC 1) 90 (0, 0)) ∧ w'.heap[w.heap.size + 1]? = some (.cells tabV.toArray 91 (0, 0))) := ⟨by
    rcases HST.out with ⟨_, h1, h2⟩ | ⟨h1, h2⟩
    ·refine (do_first _ _ (by simp) wr h1 h2).mono ?_
     rintro e w' ⟨rfl, hf, h3, h4⟩
     exact ⟨rfl, HF.out.trans hf (by intro i hi; simp at hi; omega), h3, h4⟩
    ·refine (do_done _ _ wr h1).mono ?_
     rintro e w' ⟨rfl, rfl⟩
     exact ⟨rfl, HF.out, h1, h2⟩⟩
   obtain ⟨y, hy⟩ : ∃ y, crcN l k = y := ⟨_, rfl⟩
   have HY : Aside0 (crcN l (k + 1) = cf4 (cf4 (y ^^^ BitVec.ofInt 32 x))) := ⟨by rw [← hy]; unfold crcN; rw [List.take_add_one, hxm]; simp [crcStep]⟩
   rw [hy]
   clear hx hxm hy
   obtain ⟨y1, hy1⟩ : ∃ z, y ^^^ BitVec.ofInt 32 x = z := ⟨_, rfl⟩
   have e1 : Go.bits .xor .u32 (cval y) x = cval y1 := by
    have := xor_cval y (BitVec.ofInt 32 x)
    rw [hy1] at this
    rw [← this]
    congr 1
    unfold cval
    rw [BitVec.toNat_ofInt]
    omega
   have e2 := and15_cval y1
   have b0 : 0 ≤ cval (y1 &&& 15#32) := (cval_lt _).1
   have b1 : cval (y1 &&& 15#32) < 16 := by have := idx_cval y1; omega
   obtain ⟨y2, hy2⟩ : ∃ z, cf4 y1 = z := ⟨_, rfl⟩
   have e3 := half_cval y1
   rw [hy2] at e3
   have e4 := and15_cval y2
   have b2 : 0 ≤ cval (y2 &&& 15#32) := (cval_lt _).1
   have b3 : cval (y2 &&& 15#32) < 16 := by have := idx_cval y2; omega
   have e5 := half_cval y2
   have HZ : Aside0 (crcN l (k + 1) = cf4 y2) := ⟨by rw [HY.out, hy1, hy2]⟩
   clear hy1 hy2 HY
   go_wp2_with (first | (go_at_call 35; (refine HDO.out.mono ?_); rintro e W1 ⟨rfl, hF1, h1, h2⟩; have HF1 := AsM hF1; have H1 := AsM h1; have H2 := AsM h2; have tc1 := tab_cell h2 y1; have tc2 := tab_cell h2 y2; clear hF1 h1 h2))
   go_roundg (l.length - (k + 1))
   case measure => have := HM.out; omega
   case rel => exact ⟨k + 1, by rw [HZ.out], by go_num, by omega, ⟨Nat.le_refl _⟩, HF1, ⟨.inr ⟨H1.out, H2.out⟩⟩⟩
  ·obtain rfl : k = l.length := by omega
   have n3 : decide (l.length < l.length) = false := by simp
   go_wp2
   go_ret
   exact ⟨by rw [not_cval, show crcN l l.length = l.foldl crcStep (BitVec.allOnes 32) by unfold crcN; rw [List.take_length]]; rfl, FX HF.out⟩
theorem rem2_cval (v : BitVec 32) : Int.tmod (cval v) 2 = if v.getLsbD 0 then 1 else 0 := by
 have h0 := (cval_lt v).1
 rw [Int.tmod_eq_emod_of_nonneg h0]
 unfold cval
 have : v.getLsbD 0 = decide (v.toNat % 2 = 1) := by rw [BitVec.getLsbD, Nat.testBit_zero]
 rw [this]
 by_cases h : v.toNat % 2 = 1
 ·rw [if_pos (decide_eq_true h)]; omega
 ·rw [if_neg (by simpa using h)]; omega
theorem quo2_cval (v : BitVec 32) : Int.tdiv (cval v) 2 = cval (v >>> 1) := by
 rw [Int.tdiv_eq_ediv_of_nonneg (cval_lt v).1, shr1_cval]
theorem byte_bit (x : Int) (h : 0 ≤ x ∧ x < 256) (k : Nat) : x / 2 ^ k % 2 = if (BitVec.ofInt 32 x).getLsbD k then 1 else 0 := by
 obtain ⟨n, rfl⟩ : ∃ n : Nat, x = n := ⟨x.toNat, by omega⟩
 have e : (n : Int) / 2 ^ k = ((n / 2 ^ k : Nat) : Int) := by rw [Int.natCast_ediv]; simp
 rw [e]
 have hb : (BitVec.ofInt 32 (n : Int)).getLsbD k = decide (n / 2 ^ k % 2 = 1) := by
  rw [BitVec.ofInt_natCast, BitVec.getLsbD_ofNat, Nat.testBit_eq_decide_div_mod_eq]
  by_cases hk : k < 32
  ·simp [hk]
  ·have : n / 2 ^ k = 0 := Nat.div_eq_of_lt (Nat.lt_of_lt_of_le (show n < 2 ^ 8 by have := h.2; omega) (Nat.pow_le_pow_right (by decide) (by omega)))
   simp [hk, this]
 rw [hb]
 by_cases h2 : n / 2 ^ k % 2 = 1
 ·rw [if_pos (decide_eq_true h2)]; omega
 ·rw [if_neg (by simpa using h2)]; omega
theorem byte_high (x : Int) (h : 0 ≤ x ∧ x < 256) : ∀ i, 8 ≤ i → (BitVec.ofInt 32 x).getLsbD i = false := by
 intro i hi
 obtain ⟨n, rfl⟩ : ∃ n : Nat, x = n := ⟨x.toNat, by omega⟩
 rw [BitVec.ofInt_natCast, BitVec.getLsbD_ofNat, Nat.testBit_lt_two_pow (Nat.lt_of_lt_of_le (show n < 2 ^ 8 by have := h.2; omega) (Nat.pow_le_pow_right (by decide) hi))]
 simp
theorem low_eq (z : BitVec 32) (x : Int) (h : 0 ≤ x ∧ x < 256) (k : Nat) : (Int.tmod (cval z) 2 != x / 2 ^ k % 2) = (z.getLsbD 0 != (BitVec.ofInt 32 x).getLsbD k) := by
 rw [rem2_cval, byte_bit x h]
 cases z.getLsbD 0 <;> cases (BitVec.ofInt 32 x).getLsbD k <;> decide
theorem cg_true (z : BitVec 32) (b : Bool) (h : (z.getLsbD 0 != b) = true) : Go.bits .xor .u32 (cval (z >>> 1)) 3988292384 = cval (cg z b) := by
 have e := xor_cval (z >>> 1) cpol
 rw [show cval cpol = 3988292384 from rfl] at e
 rw [e]
 unfold cg
 rw [if_pos h]
theorem cg_false (z : BitVec 32) (b : Bool) (h : (z.getLsbD 0 != b) = false) : cval (z >>> 1) = cval (cg z b) := by
 unfold cg
 rw [if_neg (by rw [h]; decide)]
 simp
theorem rCrc_calls (A : Option Addr) (c : Nat) (l : List Int) (w : World) (hr : Kd.C (Kd.int .u8) w A l.length l) (hb : ∀ x ∈ l, 0 ≤ x ∧ x < 256) :
  Calls Tryz.prog 43 #[.slice A l.length c] w fun e w' => e = .returned (.int .u32 (cval (crcL l))) ∧ Fr w w' [] := by
 have HR := AsM hr
 have HBY := AsM hb
 have hl63 := Kd.C_max hr
 clear hr hb
 go_enter Tryz.func43, Tryz.ntmps43
 go_wp2
 go_loopg [3, 4] l.length (fun kq s3 s4 wr => ∃ (i : Nat), s3 = .int .u32 (cval (crcN l i)) ∧ s4 = .int .i64 i ∧ i ≤ l.length ∧ Aside0 (l.length - i ≤ kq) ∧ Aside0 (Fr w wr []))
 case atStart => exact ⟨0, rfl, rfl, Nat.zero_le _, ⟨Nat.le_refl _⟩, ⟨FQ⟩⟩
 case round =>
  obtain ⟨i, rfl, rfl, hi, HM, HF⟩ := hrel
  by_cases hil : i < l.length
  ·have n3 : decide (i < l.length) = true := by simpa using hil
   obtain ⟨x, hx⟩ : ∃ x, l.getD i 0 = x := ⟨_, rfl⟩
   have hxm : l[i]? = some x := by rw [List.getD_eq_getElem?_getD, List.getElem?_eq_getElem hil] at hx; rw [List.getElem?_eq_getElem hil]; simpa using hx
   have HXR := AsM (HBY.out x (List.mem_of_getElem? hxm))
   have HX := AsM hx
   obtain ⟨y, hy⟩ : ∃ y, crcN l i = y := ⟨_, rfl⟩
   have HY : Aside0 (crcN l (i + 1) = cgs y (BitVec.ofInt 32 x) 8) := ⟨by rw [cgs_eq _ _ (byte_high x HXR.out), ← hy]; unfold crcN; rw [List.take_add_one, hxm]; simp [crcStep]⟩
   rw [hy]
   clear hx hxm hy
   go_wp2
   go_loopg [3, 5] 8 (fun kq s3 s5 wi => ∃ (k : Nat), s3 = .int .u32 (cval (cgs y (BitVec.ofInt 32 x) k)) ∧ s5 = .int .i64 k ∧ k ≤ 8 ∧ Aside0 (8 - k ≤ kq) ∧ Aside0 (Fr w wi []))
   case atStart => exact ⟨0, rfl, rfl, Nat.zero_le _, ⟨Nat.le_refl _⟩, HF⟩
   case round =>
    clear HF
    obtain ⟨k, rfl, rfl, hk, HM2, HF⟩ := hrel
    by_cases hkl : k < 8
    ·have n4 : decide ((k : Int) < 8) = true := by simp; omega
     obtain ⟨ad, rfl, g0⟩ := u8_at (Kd.C_below HR.out HF.out.below) i hil
     rw [HX.out] at g0
     obtain ⟨z, hz⟩ : ∃ z, cgs y (BitVec.ofInt 32 x) k = z := ⟨_, rfl⟩
     have HZ : Aside0 (cgs y (BitVec.ofInt 32 x) (k + 1) = cg z ((BitVec.ofInt 32 x).getLsbD k)) := ⟨by rw [← hz]; rfl⟩
     rw [hz]
     clear hz
     have q2 := quo2_cval z
     have q3 : cval (z >>> 1) % 4294967296 = cval (z >>> 1) := Int.emod_eq_of_lt (cval_lt _).1 (cval_lt _).2
     have hlo := low_eq z x HXR.out k
     cases hv : (z.getLsbD 0 != (BitVec.ofInt 32 x).getLsbD k)
     ·rw [hv] at hlo
      have HE := AsM (cg_false z _ hv)
      clear hv
      go_wp2
      go_roundg (8 - (k + 1))
      case measure => have := HM2.out; omega
      case rel => exact ⟨k + 1, by rw [HZ.out]; exact congrArg (Value.int .u32) HE.out, by go_num, by omega, ⟨Nat.le_refl _⟩, HF⟩
     ·rw [hv] at hlo
      have HE := AsM (cg_true z _ hv)
      clear hv
      go_wp2
      go_roundg (8 - (k + 1))
      case measure => have := HM2.out; omega
      case rel => exact ⟨k + 1, by rw [HZ.out]; exact congrArg (Value.int .u32) HE.out, by go_num, by omega, ⟨Nat.le_refl _⟩, HF⟩
    ·obtain rfl : k = 8 := by omega
     have n4 : decide (((8 : Nat) : Int) < 8) = false := by decide
     go_wp2
     go_roundg (l.length - (i + 1))
     case measure => have := HM.out; omega
     case rel => exact ⟨i + 1, by rw [HY.out], by go_num, by omega, ⟨Nat.le_refl _⟩, HF⟩
  ·obtain rfl : i = l.length := by omega
   have n3 : decide (l.length < l.length) = false := by simp
   go_wp2
   go_ret
   exact ⟨by rw [not_cval, show crcN l l.length = l.foldl crcStep (BitVec.allOnes 32) by unfold crcN; rw [List.take_length]]; rfl, FX HF.out⟩
open Go.Proofs.YtpoehkacfmljcaaGreatDoor.M
def OwB (l : List Int) (w : World) (e : Ending) (w' : World) : Prop := ∃ v, e = .returned v ∧ Kd.R (Kd.int .u8) 5 w' w.heap.size (fun _ => True) v l ∧ Below w.heap.size w w'
def zer8 (n : Nat) : Array Value := madeCells (Value.int .u8 0).cells n
theorem made8 (n : Nat) (hn : n ≤ 140000000000000) (W : World) : (Instr.makeSlice 32 (.int .i64 0) (.int .i64 n)).run Tryz.prog W = .ok (.slice (some ⟨W.heap.size, 0, none⟩) 0 n) (W.alloc (.cells (zer8 n) 5)) := by
 obtain ⟨i0, hi0, hz0, hz1, hz2⟩ := info_parts info5
 have hr := run_make (P := Tryz.prog) W 32 5 i0 (.int .u8 0) Tryz.underlying32 hi0 hz0 .i64 .i64 (0 : Int) (n : Int) (by omega) (by omega) (by rw [hz2]; omega) (by omega)
 simp only [Int.toNat_natCast, hz1, Nat.mul_one] at hr
 exact hr
theorem made_R (n : Nat) (hn : n ≤ 140000000000000) (w : World) (base : Nat) (hb : base ≤ w.heap.size) : Kd.R (Kd.int .u8) 5 (w.alloc (.cells (zer8 n) 5)) base (fun _ => True) (.slice (some ⟨w.heap.size, 0, none⟩) 0 n) [] :=
 ⟨fun _ _ => trivial, [], ⟨by simp, .inr ⟨w.heap.size, n, zer8 n, rfl, hb, blk_newN rfl, Nat.zero_le _, by unfold maxLen; omega, by simp [zer8, size_madeCells, Kd.int, Kd.scalar], by simp⟩⟩, Reps.none _ _⟩
theorem joined_calls (A : Option Addr) (c : Nat) (la : List Int) (B : Option Addr) (d : Nat) (lb : List Int) (w : World) (ha : Kd.C (Kd.int .u8) w A la.length la) (hc : la.length ≤ c) (hb : Kd.C (Kd.int .u8) w B lb.length lb) (hd : lb.length ≤ d) (hl : la.length + lb.length ≤ 140000000000000) :
  Calls Tryz.prog 26 #[.slice A la.length c, .slice B lb.length d] w (OwB (la ++ lb) w) := by
 have HA' := AsM ha
 have HB' := AsM hb
 have mk : ∀ W : World, (Instr.makeSlice 32 (.int .i64 0) (.int .i64 ((la.length : Int) + (lb.length : Int)))).run Tryz.prog W = .ok (.slice (some ⟨W.heap.size, 0, none⟩) 0 (la.length + lb.length)) (W.alloc (.cells (zer8 (la.length + lb.length)) 5)) := fun W => by
  have := made8 (la.length + lb.length) hl W
  rw [Int.natCast_add] at this
  exact this
 have mr := made_R (la.length + lb.length) hl w w.heap.size (Nat.le_refl _)
 have hsum : IntKind.i64.wrap ((la.length : Int) + (lb.length : Int)) = ((la.length + lb.length : Nat) : Int) := by rw [i64_w]; unfold wrap64; omega
 have HMR := AsM mr
 clear ha hb mr
 go_enter Tryz.func26, Tryz.ntmps26
 go_wp2_with (first | (at_builtin; (refine Kd.R_append_rows (Kd.int .u8) (w0 := w) w.heap.size rfl (.tmp 12) (.tmp 13) 32 5 (.int .u8 0) 1 rfl Tryz.underlying32 info5 rfl (by decide) (by decide) _ [] la A la.length c (fun _ => True) (fun _ => False) rfl rfl HMR.out (Kd.C_alloc HA'.out _) (fun _ _ h => h) (fun _ h => h.elim) (fun _ _ => trivial) (below_alloc (Below.refl _ _) _) (by simp) (by simp; omega) ?_); intro v1 w1 ho hb hg hat; have HO1 := AsM ho; have HB1 := AsM hb; clear ho hb hg hat; obtain ⟨Av, cv, rfl⟩ := Kd.R_slice HO1.out) | (at_builtin; (refine Kd.R_append_rows (Kd.int .u8) (w0 := w) w.heap.size rfl (.tmp 15) (.tmp 16) 32 5 (.int .u8 0) 1 rfl Tryz.underlying32 info5 rfl (by decide) (by decide) _ ([] ++ la) lb B lb.length d (fun _ => True) (fun _ => False) rfl rfl HO1.out (Kd.C_below HB'.out HB1.out) (fun _ _ h => h) (fun _ h => h.elim) (fun _ _ => trivial) HB1.out HB1.out.size (by simp; omega) ?_); intro v2 w2 ho hb hg hat; have HO2 := AsM ho; have HB2 := AsM hb; clear ho hb hg hat; obtain ⟨Aw, cw, rfl⟩ := Kd.R_slice HO2.out))
 have ho := HO2.out
 rw [List.nil_append, List.length_append] at ho
 go_ret
 exact ⟨_, rfl, ho, HB2.out⟩
theorem OwB.open_ {l : List Int} {w : World} {e : Ending} {w' : World} (h : OwB l w e w') : ∃ A c, e = .returned (.slice A l.length c) ∧ l.length ≤ c ∧ Kd.C (Kd.int .u8) w' A l.length l ∧ Fr w w' [] := by
 obtain ⟨v, rfl, hR, hB⟩ := h
 obtain ⟨A, c, rfl, hc, hC⟩ := Kd.R_reads hR
 exact ⟨A, c, rfl, hc, hC, Fr.of_below hB _⟩
theorem OwB.of_fr {l : List Int} {w w1 : World} {e : Ending} {w' : World} (h : OwB l w1 e w') (hf : Fr w w1 []) : OwB l w e w' := by
 obtain ⟨v, rfl, hR, hB⟩ := h
 exact ⟨v, rfl, Kd.R_lower hR hf.size, (Fr.trans hf (Fr.of_below hB []) (by simp)).below⟩
theorem rVarint_calls {x : Nat} (hx : x < 18446744073709551616) (w : World) : Calls Tryz.prog 27 #[.int .u64 x] w (OwB (uvar x) w) :=
 (payoffref04_Varint.calls 11 x (uvar x) w (varint_f hx)).mono fun e w' ⟨v, he, hR, hB⟩ => ⟨v, he, hR, hB⟩
end Go.Proofs.YtpoehkacfmljcaaGreatDoor.H
