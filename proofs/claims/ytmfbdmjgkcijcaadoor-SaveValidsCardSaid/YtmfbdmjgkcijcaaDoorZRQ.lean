/- The reference's New. -/
import Derived.Test.YtmfbdmjgkcijcaaDoorZV
import Derived.Test.YtmfbdmjgkcijcaaDoorZRN
import Derived.Test.YtmfbdmjgkcijcaaDoorZRP
namespace Go.Proofs.YtmfbdmjgkcijcaaDoor.H
open Go.RowKit Go.Proofs.YtmfbdmjgkcijcaaDoorW.PrintWords Go.Proofs.YtmfbdmjgkcijcaaDoorW.PrintLast Go.Proofs.YtmfbdmjgkcijcaaDoorW.PrintMore
open Go.ChangeMaps (setBlock)
attribute [local go_sem] max2_int min2_int max_two min_two max_three min_three max_four min_four
set_option linter.unusedVariables false
set_option linter.unusedSimpArgs false
open Go.Proofs.YtmfbdmjgkcijcaaDoor.M
def refCells (A0 : Option Addr) (n0 c0 : Nat) (x1 x2 : Value) (hor cel slo sta : Int) (A7 : Option Addr) (n7 c7 : Nat) (pst pfu pba : Int) (x13 : Value) : Array Value :=
  #[.slice A0 n0 c0, x1, x2, .int .i64 hor, .int .i64 cel, .int .i64 slo, .int .i64 sta, .slice A7 n7 c7, .int .i64 pst, .int .i64 pfu, .int .i64 pba, .int .i64 0, .int .i64 0, x13, .slice none 0 0, .int .i64 0, .int .i64 0, .slice none 0 0]
def NewPost (r : Int × Acc) (A0 : Option Addr) (n0 c0 : Nat) (x1 x2 : Value) (hor cel slo sta : Int) (A7 : Option Addr) (n7 c7 : Nat) (w : World) (e : Ending) (w' : World) : Prop :=
  Fr w w' [] ∧ ∃ pv, e = .returned (.tuple #[pv, .int .i64 r.1]) ∧ (r.1 = 0 → ∃ g q m c, pv = .pointer (some ⟨g, 0, none⟩) ∧ w.heap.size ≤ g ∧ w'.heap[g]? = some (.cells (refCells A0 n0 c0 x1 x2 hor cel slo sta A7 n7 c7 r.2.stack r.2.fuel r.2.back (.slice (some ⟨q, 0, none⟩) m c)) 56 (0, 0)))
theorem new_err {r : Int × Acc} {A0 : Option Addr} {n0 c0 : Nat} {x1 x2 : Value} {hor cel slo sta : Int} {A7 : Option Addr} {n7 c7 : Nat} {w W : World} {err : Int} (h : r.1 = err) (hf : Fr w W []) (hz : err ≠ 0) : NewPost r A0 n0 c0 x1 x2 hor cel slo sta A7 n7 c7 w (.returned (.tuple #[.pointer none, .int .i64 err])) W := by
  subst h
  exact ⟨hf, _, rfl, fun h => absurd h hz⟩
theorem ver0R {names curs : List ByteArray} {pool : List Int} {hor cel slo sta : Int} {days : List S41} (h : (verifyR names curs pool hor cel slo sta days).1 = 0) : listsB names curs pool hor cel slo sta = true ∧ days.length ≤ 1000000 ∧ ∀ s ∈ days, DayOk s := by
  unfold verifyR at h
  by_cases hc : canonP names curs pool hor cel slo sta days = 0
  · exact canonP_ok hc
  · rw [if_pos hc] at h
    exact absurd h hc
set_option maxHeartbeats 4000000 in
set_option maxRecDepth 100000 in
theorem new_calls (A0 : Option Addr) (c0 : Nat) (names : List ByteArray) (A1 : Option Addr) (c1 : Nat) (curs : List ByteArray) (A2 : Option Addr) (c2 : Nat) (pool : List Int) (hor cel slo sta : Int) (A7 : Option Addr) (c7 : Nat) (days : List S41) (w : World) (hr0 : Kd.C Kd.string w A0 names.length names) (hc0 : names.length ≤ c0) (hr1 : Kd.C Kd.string w A1 curs.length curs) (hc1 : curs.length ≤ c1) (hr2 : Kd.C (Kd.int .i64) w A2 pool.length pool) (hr7 : Kd.C k41 w A7 days.length days) (hc7 : days.length ≤ c7) (hdl : ∀ s ∈ days, s.f1.length ≤ 10000000000000) (hsz : ∀ s ∈ names, s.size ≤ 9223372036854775806) (G : TabW w) :
    Calls Tryd.prog 13 #[.agg #[.slice A0 names.length c0, .slice A1 curs.length c1, .slice A2 pool.length c2, .int .i64 hor, .int .i64 cel, .int .i64 slo, .int .i64 sta, .slice A7 days.length c7]] w (NewPost (verifyR names curs pool hor cel slo sta days) A0 names.length c0 (.slice A1 curs.length c1) (.slice A2 pool.length c2) hor cel slo sta A7 days.length c7 w) := by
  obtain ⟨R, hR⟩ : ∃ x, verifyR names curs pool hor cel slo sta days = x := ⟨_, rfl⟩
  have hv0 := fun h => ver0R (names := names) (curs := curs) (pool := pool) (hor := hor) (cel := cel) (slo := slo) (sta := sta) (days := days) h
  have CC : Aside0 (∀ W, Fr w W [] → Calls Tryd.prog 25 #[.agg #[.slice A0 names.length c0, .slice A1 curs.length c1, .slice A2 pool.length c2, .int .i64 hor, .int .i64 cel, .int .i64 slo, .int .i64 sta, .slice A7 days.length c7]] W (VerRPost R W)) := ⟨fun W h => hR ▸ rVerify_calls A0 c0 names A1 c1 curs A2 c2 pool hor cel slo sta A7 c7 days W (Kd.C_below hr0 h.below) hc0 (Kd.C_below hr1 h.below) hc1 (Kd.C_below hr2 h.below) (Kd.C_below hr7 h.below) hc7 hdl hsz (G.fr0 h)⟩
  rw [hR] at hv0 ⊢
  clear hr0 hr1 hr2 hr7 G hdl hsz hR
  obtain ⟨err, acc⟩ := R
  simp only at hv0
  have hup := Tryd.underlying26
  have huq := Tryd.underlying49
  have hus := Tryd.underlying30
  have hum := Tryd.underlying56
  by_cases hz : err = 0
  case neg =>
    have hz2 : (err != 0) = true := by simpa using hz
    have HZ := Aside0.mk hz
    clear hz hv0
    go_enter Tryd.func13, Tryd.ntmps13
    go_wp2_with (first | (go_at_call 25; (with_reducible refine (CC.out _ ?_).mono ?_); (next => exact FQ); rintro e W1 ⟨st, dd, kk, rfl, hF1, _⟩; have HF1 : Aside0 (Fr w W1 []) := ⟨Fr.trans (M := []) FQ hF1 (by simp)⟩; clear hF1))
    go_ret2
    exact new_err rfl (by (with_reducible (repeat (first | exact Fr.refl _ _ | refine Fr.drew ?_ | refine Fr.drewN ?_ _ | refine Fr.alloc ?_ _ | refine Fr.setCell ?_ _ _ ?_))) <;> first | exact HF1.out | simp) HZ.out
  case pos =>
    subst hz
    have hli := lists_facts (hv0 rfl).1
    obtain ⟨cn, rfl⟩ : ∃ cn : Nat, cel = cn := ⟨cel.toNat, by omega⟩
    have mk1 := mk_runI cn (by omega)
    clear hv0 hli
    go_enter Tryd.func13, Tryd.ntmps13
    go_upto_region 4 with (first | (go_at_call 25; (with_reducible refine (CC.out _ ?_).mono ?_); (next => exact FQ); rintro e W1 ⟨st, dd, kk, rfl, hF1, hst⟩; obtain rfl : acc = st := (hst rfl).symm; have HX1 := Aside0.mk (hF1.blk (g := w.heap.size) (blk_newN rfl) (by simp)); have HF1 : Aside0 (Fr w W1 []) := ⟨Fr.trans (M := []) FQ hF1 (by simp)⟩; clear hF1))
    refine name_ (fun V => Aside0 (Fr w V []) ∧ Aside0 (V.heap[w.heap.size]? = some (.cells #[.slice A0 names.length c0, .slice A1 curs.length c1, .slice A2 pool.length c2, .int .i64 hor, .int .i64 cn, .int .i64 slo, .int .i64 sta, .slice A7 days.length c7] 26 (0, 0))) ∧ Aside0 (V.heap[W1.heap.size]? = some (.cells #[.int .i64 acc.stack, .int .i64 acc.fuel, .int .i64 acc.back] 49 (0, 0)))) ⟨⟨by (with_reducible (repeat (first | exact Fr.refl _ _ | refine Fr.drew ?_ | refine Fr.drewN ?_ _ | refine Fr.alloc ?_ _ | refine Fr.setCell ?_ _ _ ?_))); exact HF1.out⟩, ⟨blk_alloc HX1.out _⟩, ⟨blk_newN rfl⟩⟩ ?_
    obtain ⟨p, hp⟩ : ∃ p, W1.heap.size = p := ⟨_, rfl⟩
    rw [hp]
    clear HX1 HF1 CC hp
    rintro V ⟨HVF, HVX, HVP⟩
    have x0 := blk_cell HVX.out 0
    have x1 := blk_cell HVX.out 1
    have x2 := blk_cell HVX.out 2
    have x3 := blk_cell HVX.out 3
    have x4 := blk_cell HVX.out 4
    have x5 := blk_cell HVX.out 5
    have x6 := blk_cell HVX.out 6
    have x7 := blk_cell HVX.out 7
    have p0 := blk_cell HVP.out 0
    have p1 := blk_cell HVP.out 1
    have p2 := blk_cell HVP.out 2
    have hxl := blk_lt HVX.out
    have hpl := blk_lt HVP.out
    go_region
    go_wp2
    go_ret2
    exact ⟨by (with_reducible (repeat (first | exact Fr.refl _ _ | refine Fr.drew ?_ | refine Fr.drewN ?_ _ | refine Fr.alloc ?_ _ | refine Fr.setCell ?_ _ _ ?_))); exact HVF.out, _, rfl, fun _ => ⟨V.heap.size + 1, V.heap.size, cn, cn, rfl, by have := HVF.out.size; omega, blk_drew (blk_newN (by simp))⟩⟩
end Go.Proofs.YtmfbdmjgkcijcaaDoor.H
