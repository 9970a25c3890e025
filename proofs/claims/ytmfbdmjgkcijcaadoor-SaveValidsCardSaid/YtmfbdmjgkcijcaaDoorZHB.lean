/- The program's tables (code.kinds, payoffref11.table, verify.number, verify.truth) in memory; what looks into them: Effect, Valid, row, gives. -/
import Derived.Test.YtmfbdmjgkcijcaaDoorZV
import Derived.Test.YtmfbdmjgkcijcaaDoorZHM
import Derived.Outline
namespace Go.Proofs.YtmfbdmjgkcijcaaDoor.H
open Go.RowKit Go.Proofs.YtmfbdmjgkcijcaaDoorW.PrintWords Go.Proofs.YtmfbdmjgkcijcaaDoorW.PrintLast Go.Proofs.YtmfbdmjgkcijcaaDoorW.PrintMore
attribute [local go_sem] max2_int min2_int max_two min_two max_three min_three max_four min_four
set_option linter.unusedVariables false
set_option linter.unusedSimpArgs false
/-- code.kinds: name, operands, the greatest operands, takes, puts. -/
def kTab : List (ByteArray × Int × Int × Int × Int × Int) := [(⟨#[101, 110, 100]⟩, 0, 0, 0, 0, 0), (⟨#[99, 111, 110, 115, 116]⟩, 1, 16383, 0, 0, 1), (⟨#[98, 111, 111, 108]⟩, 1, 1, 0, 0, 1), (⟨#[111, 98, 115]⟩, 2, 63, 3660, 0, 1), (⟨#[108, 111, 97, 100]⟩, 1, 32767, 0, 0, 1), (⟨#[115, 116, 111, 114, 101]⟩, 1, 32767, 0, 1, 0), (⟨#[107, 101, 101, 112]⟩, 1, 16383, 0, 1, 1), (⟨#[103, 101, 116]⟩, 1, 16383, 0, 0, 1), (⟨#[100, 114, 111, 112]⟩, 0, 0, 0, 1, 0), (⟨#[97, 100, 100]⟩, 0, 0, 0, 2, 1), (⟨#[115, 117, 98]⟩, 0, 0, 0, 2, 1), (⟨#[109, 117, 108]⟩, 0, 0, 0, 2, 1), (⟨#[110, 101, 103]⟩, 0, 0, 0, 1, 1), (⟨#[100, 105, 118]⟩, 0, 0, 0, 2, 1), (⟨#[109, 111, 100]⟩, 0, 0, 0, 2, 1), (⟨#[97, 98, 115]⟩, 0, 0, 0, 1, 1), (⟨#[109, 105, 110]⟩, 0, 0, 0, 2, 1), (⟨#[109, 97, 120]⟩, 0, 0, 0, 2, 1), (⟨#[114, 97, 116, 105, 111]⟩, 1, 4, 0, 3, 1), (⟨#[108, 116]⟩, 0, 0, 0, 2, 1), (⟨#[108, 101]⟩, 0, 0, 0, 2, 1), (⟨#[103, 116]⟩, 0, 0, 0, 2, 1), (⟨#[103, 101]⟩, 0, 0, 0, 2, 1), (⟨#[101, 113]⟩, 0, 0, 0, 2, 1), (⟨#[110, 101]⟩, 0, 0, 0, 2, 1), (⟨#[110, 111, 116]⟩, 0, 0, 0, 1, 1), (⟨#[106, 117, 109, 112]⟩, 1, 262143, 0, 0, 0), (⟨#[122, 101, 114, 111]⟩, 1, 262143, 0, 1, 0), (⟨#[102, 108, 111, 119]⟩, 1, 4095, 0, 1, 0)]
/-- payoffref11.table: name, bounds, takes, puts. -/
def rTab : List (ByteArray × Int × Int × Int × Int) := [(⟨#[101, 110, 100]⟩, (-1), (-1), 0, 0), (⟨#[99, 111, 110, 115, 116]⟩, 16383, (-1), 0, 1), (⟨#[98, 111, 111, 108]⟩, 1, (-1), 0, 1), (⟨#[111, 98, 115]⟩, 63, 3660, 0, 1), (⟨#[108, 111, 97, 100]⟩, 32767, (-1), 0, 1), (⟨#[115, 116, 111, 114, 101]⟩, 32767, (-1), 1, 0), (⟨#[107, 101, 101, 112]⟩, 16383, (-1), 1, 1), (⟨#[103, 101, 116]⟩, 16383, (-1), 0, 1), (⟨#[100, 114, 111, 112]⟩, (-1), (-1), 1, 0), (⟨#[97, 100, 100]⟩, (-1), (-1), 2, 1), (⟨#[115, 117, 98]⟩, (-1), (-1), 2, 1), (⟨#[109, 117, 108]⟩, (-1), (-1), 2, 1), (⟨#[110, 101, 103]⟩, (-1), (-1), 1, 1), (⟨#[100, 105, 118]⟩, (-1), (-1), 2, 1), (⟨#[109, 111, 100]⟩, (-1), (-1), 2, 1), (⟨#[97, 98, 115]⟩, (-1), (-1), 1, 1), (⟨#[109, 105, 110]⟩, (-1), (-1), 2, 1), (⟨#[109, 97, 120]⟩, (-1), (-1), 2, 1), (⟨#[114, 97, 116, 105, 111]⟩, 4, (-1), 3, 1), (⟨#[108, 116]⟩, (-1), (-1), 2, 1), (⟨#[108, 101]⟩, (-1), (-1), 2, 1), (⟨#[103, 116]⟩, (-1), (-1), 2, 1), (⟨#[103, 101]⟩, (-1), (-1), 2, 1), (⟨#[101, 113]⟩, (-1), (-1), 2, 1), (⟨#[110, 101]⟩, (-1), (-1), 2, 1), (⟨#[110, 111, 116]⟩, (-1), (-1), 1, 1), (⟨#[106, 117, 109, 112]⟩, 262143, (-1), 0, 0), (⟨#[122, 101, 114, 111]⟩, 262143, (-1), 1, 0), (⟨#[102, 108, 111, 119]⟩, 4095, (-1), 1, 0)]
def kRow (i : Nat) : ByteArray × Int × Int × Int × Int × Int := kTab.getD i (ByteArray.empty, 0, 0, 0, 0, 0)
def rRow (i : Nat) : ByteArray × Int × Int × Int × Int := rTab.getD i (ByteArray.empty, 0, 0, 0, 0)
/-- The package-level variables lie in memory as the program's text lays them. -/
structure TabW (w : World) : Prop where
  lt : 3 < w.heap.size
  num : w.cell? ⟨0, 0, none⟩ = some (.bool false)
  tru : w.cell? ⟨2, 0, none⟩ = some (.bool true)
  knd : ∀ i : Nat, i < 29 → w.cell? ⟨1, i * 6, none⟩ = some (.string (kRow i).1) ∧ w.cell? ⟨1, i * 6 + 1, none⟩ = some (.int .i64 (kRow i).2.1) ∧ w.cell? ⟨1, i * 6 + 2, none⟩ = some (.int .i64 (kRow i).2.2.1) ∧ w.cell? ⟨1, i * 6 + 3, none⟩ = some (.int .i64 (kRow i).2.2.2.1) ∧ w.cell? ⟨1, i * 6 + 4, none⟩ = some (.int .i64 (kRow i).2.2.2.2.1) ∧ w.cell? ⟨1, i * 6 + 5, none⟩ = some (.int .i64 (kRow i).2.2.2.2.2)
  tab : ∀ i : Nat, i < 29 → w.cell? ⟨3, i * 5, none⟩ = some (.string (rRow i).1) ∧ w.cell? ⟨3, i * 5 + 1, none⟩ = some (.int .i64 (rRow i).2.1) ∧ w.cell? ⟨3, i * 5 + 2, none⟩ = some (.int .i64 (rRow i).2.2.1) ∧ w.cell? ⟨3, i * 5 + 3, none⟩ = some (.int .i64 (rRow i).2.2.2.1) ∧ w.cell? ⟨3, i * 5 + 4, none⟩ = some (.int .i64 (rRow i).2.2.2.2)
theorem fr_cell {w w' : World} {L : List Nat} (h : Fr w w' L) {b o : Nat} (hb : b < w.heap.size) (hn : b ∉ L) : w'.cell? ⟨b, o, none⟩ = w.cell? ⟨b, o, none⟩ := by
  simp only [World.cell?, h.block b hb hn]
theorem TabW.fr {w w' : World} {L : List Nat} (h : TabW w) (hf : Fr w w' L) (hL : ∀ b ∈ L, 3 < b) : TabW w' := by
  have hlt := h.lt
  have hn : ∀ b, b ≤ 3 → b ∉ L := fun b hb hm => by have := hL b hm; omega
  have hc : ∀ b o, b ≤ 3 → w'.cell? ⟨b, o, none⟩ = w.cell? ⟨b, o, none⟩ := fun b o hb => fr_cell hf (by omega) (hn b hb)
  refine ⟨Nat.lt_of_lt_of_le h.lt hf.size, ?_, ?_, fun i hi => ?_, fun i hi => ?_⟩
  · rw [hc _ _ (by omega)]; exact h.num
  · rw [hc _ _ (by omega)]; exact h.tru
  · simp only [hc _ _ (show 1 ≤ 3 by omega)]; exact h.knd i hi
  · simp only [hc _ _ (show 3 ≤ 3 by omega)]; exact h.tab i hi
theorem TabW.fr0 {w w' : World} (h : TabW w) (hf : Fr w w' []) : TabW w' := h.fr hf (by simp)
set_option maxHeartbeats 4000000 in
set_option maxRecDepth 100000 in
theorem known_calls (a : Int) (w : World) : Calls Tryd.prog 86 #[.int .i64 a] w fun e w' => e = .returned (.bool (decide (0 ≤ a) && decide (a < 29))) ∧ Drawn0 w w' := by
  by_cases h : 0 ≤ a <;> by_cases h2 : a < 29
  all_goals (
    go_enter Tryd.func86, Tryd.ntmps86
    go_wp2
    go_ret
    exact ⟨by simp [h, h2], DQ⟩)
set_option maxHeartbeats 4000000 in
set_option maxRecDepth 100000 in
theorem effect_calls (i : Nat) (hi : i < 29) (w : World) (G : TabW w) : Calls Tryd.prog 72 #[.int .i64 i] w fun e w' => e = .returned (.tuple #[.int .i64 (kRow i).2.2.2.2.1, .int .i64 (kRow i).2.2.2.2.2, .int .i64 0]) ∧ Drawn0 w w' := by
  obtain ⟨k0, k1, k2, k3, k4, k5⟩ := G.knd i hi
  clear k0 k1 k2 k3 G
  have hn : (decide (0 ≤ (i : Int)) && decide ((i : Int) < 29)) = true := by simp; omega
  generalize (kRow i).2.2.2.2.1 = t4 at k4 ⊢
  generalize (kRow i).2.2.2.2.2 = t5 at k5 ⊢
  have b0 : (0 : Int) ≤ (i : Int) := by omega
  have b1 : (i : Int) < 29 := by omega
  go_enter Tryd.func72, Tryd.ntmps72
  go_wp2_with (first | (go_at_call 86; (with_reducible refine (known_calls _ _).mono ?_); rintro e w' ⟨rfl, ⟨nd, rfl⟩⟩))
  go_region
  all_goals (
    (try go_wp2)
    go_ret3
    exact ⟨(by first | rfl | (simp; done) | (simp [*]; done)), DQ⟩)
def validC (op A B : Int) : Int := if 0 ≤ op ∧ op < 29 ∧ 0 ≤ A ∧ A ≤ (kRow op.toNat).2.2.1 ∧ 0 ≤ B ∧ B ≤ (kRow op.toNat).2.2.2.1 then 0 else 111
set_option maxHeartbeats 4000000 in
set_option maxRecDepth 100000 in
theorem valid_no (op A B : Int) (hop : ¬ (0 ≤ op ∧ op < 29)) (w : World) : Calls Tryd.prog 69 #[.agg #[.int .i64 op, .int .i64 A, .int .i64 B]] w fun e w' => e = .returned (.int .i64 111) ∧ Fr w w' [] := by
  have hn : (decide (0 ≤ op) && decide (op < 29)) = false := by
    rw [Bool.and_eq_false_iff]; simp only [decide_eq_false_iff_not]; omega
  go_enter Tryd.func69, Tryd.ntmps69
  go_wp2_with (first | (go_at_call 86; (with_reducible refine (known_calls _ _).mono ?_); rintro e w' ⟨rfl, ⟨nd, rfl⟩⟩))
  go_ret
  exact ⟨(by first | rfl | (simp; done) | (simp [*]; done)), FQ⟩
set_option maxHeartbeats 4000000 in
set_option maxRecDepth 100000 in
theorem valid_yes (i : Nat) (hi : i < 29) (A B : Int) (w : World) (G : TabW w) : Calls Tryd.prog 69 #[.agg #[.int .i64 i, .int .i64 A, .int .i64 B]] w fun e w' => e = .returned (.int .i64 (validC i A B)) ∧ Fr w w' [] := by
  obtain ⟨k0, k1, k2, k3, k4, k5⟩ := G.knd i hi
  have h1 : 1 < w.heap.size := by have := G.lt; omega
  clear G
  have hn : (decide (0 ≤ (i : Int)) && decide ((i : Int) < 29)) = true := by simp; omega
  have hv : validC i A B = if 0 ≤ A ∧ A ≤ (kRow i).2.2.1 ∧ 0 ≤ B ∧ B ≤ (kRow i).2.2.2.1 then 0 else 111 := by
    unfold validC
    have e : ((i : Int)).toNat = i := by simp
    rw [e]
    by_cases h : 0 ≤ A ∧ A ≤ (kRow i).2.2.1 ∧ 0 ≤ B ∧ B ≤ (kRow i).2.2.2.1
    · rw [if_pos h, if_pos ⟨by omega, by omega, h.1, h.2.1, h.2.2.1, h.2.2.2⟩]
    · rw [if_neg h, if_neg (fun hh => h ⟨hh.2.2.1, hh.2.2.2.1, hh.2.2.2.2.1, hh.2.2.2.2.2⟩)]
  rw [hv]
  clear hv
  generalize (kRow i).1 = t0 at k0 ⊢
  generalize (kRow i).2.1 = t1 at k1 ⊢
  generalize (kRow i).2.2.1 = t2 at k2 ⊢
  generalize (kRow i).2.2.2.1 = t3 at k3 ⊢
  generalize (kRow i).2.2.2.2.1 = t4 at k4 ⊢
  generalize (kRow i).2.2.2.2.2 = t5 at k5 ⊢
  have b0 : (0 : Int) ≤ (i : Int) := by omega
  have b1 : (i : Int) < 29 := by omega
  have hu := Tryd.underlying161
  have hc : A < 0 ∨ (0 ≤ A ∧ t2 < A) ∨ (0 ≤ A ∧ A ≤ t2 ∧ B < 0) ∨ (0 ≤ A ∧ A ≤ t2 ∧ 0 ≤ B ∧ t3 < B) ∨ (0 ≤ A ∧ A ≤ t2 ∧ 0 ≤ B ∧ B ≤ t3) := by omega
  rcases hc with c1 | ⟨c1, c2⟩ | ⟨c1, c2, c3⟩ | ⟨c1, c2, c3, c4⟩ | ⟨c1, c2, c3, c4⟩
  all_goals (
    (split <;> try (exfalso; omega))
    rename_i hif
    clear hif
    go_enter Tryd.func69, Tryd.ntmps69
    go_wp2_with (first | (go_at_call 86; (with_reducible refine (known_calls _ _).mono ?_); rintro e w' ⟨rfl, ⟨nd, rfl⟩⟩))
    go_ret
    exact ⟨(by first | rfl | (simp; done) | (simp [*]; done)), FQ⟩)
theorem valid_calls (op A B : Int) (w : World) (G : TabW w) : Calls Tryd.prog 69 #[.agg #[.int .i64 op, .int .i64 A, .int .i64 B]] w fun e w' => e = .returned (.int .i64 (validC op A B)) ∧ Fr w w' [] := by
  by_cases h : 0 ≤ op ∧ op < 29
  · obtain ⟨i, rfl⟩ : ∃ i : Nat, op = i := ⟨op.toNat, by omega⟩
    exact valid_yes i (by omega) A B w G
  · rw [show validC op A B = 111 by unfold validC; rw [if_neg (fun hh => h ⟨hh.1, hh.2.1⟩)]]
    exact valid_no op A B h w
def givesB (op : Int) : Bool := decide (op = 2 ∨ (19 ≤ op ∧ op ≤ 25))
set_option maxHeartbeats 4000000 in
set_option maxRecDepth 100000 in
theorem gives_calls (op : Int) (w : World) (G : TabW w) : Calls Tryd.prog 76 #[.int .i64 op] w fun e w' => e = .returned (.agg #[.bool (givesB op)]) ∧ Fr w w' [] := by
  have g0 := G.num
  have g2 := G.tru
  have h1 : 0 < w.heap.size := by have := G.lt; omega
  have h2 : 2 < w.heap.size := by have := G.lt; omega
  clear G
  have hu := Tryd.underlying137
  have hc : op = 2 ∨ ((op == 2) = false ∧ 19 ≤ op ∧ op ≤ 25) ∨ ((op == 2) = false ∧ 19 ≤ op ∧ 25 < op) ∨ ((op == 2) = false ∧ op < 19) := by
    simp only [beq_eq_false_iff_ne, ne_eq]; omega
  have hv : givesB op = if op = 2 ∨ (19 ≤ op ∧ op ≤ 25) then true else false := by unfold givesB; by_cases h : op = 2 ∨ (19 ≤ op ∧ op ≤ 25) <;> simp [h]
  rw [hv]
  clear hv
  rcases hc with rfl | ⟨c1, c2, c3⟩ | ⟨c1, c2, c3⟩ | ⟨c1, c2⟩
  all_goals (
    (try rw [if_neg (by simp only [beq_eq_false_iff_ne, ne_eq] at c1; omega)])
    (try rw [if_pos (by omega)])
    go_enter Tryd.func76, Tryd.ntmps76
    go_wp2
    refine bodyPost_ret (results_cell_row rfl _ _ w.heap.size 137 #[.bool _] (0, 0) _ rfl (blk_newN rfl) Tryd.underlying137 rfl rfl) rfl ?_
    exact ⟨rfl, FQ⟩)
set_option maxHeartbeats 4000000 in
set_option maxRecDepth 100000 in
theorem row_no (op : Int) (hop : op < 0 ∨ 29 ≤ op) (w : World) : Calls Tryd.prog 81 #[.int .i64 op] w fun e w' => e = .returned (.tuple #[.agg #[.string ByteArray.empty, .int .i64 0, .int .i64 0, .int .i64 0, .int .i64 0], .int .i64 111]) ∧ Fr w w' [] := by
  have hop' : op < 0 ∨ (0 ≤ op ∧ 29 ≤ op) := by omega
  rcases hop' with h | ⟨h, h2⟩
  all_goals (
    go_enter Tryd.func81, Tryd.ntmps81
    go_wp2
    refine bodyPost_ret (v := .tuple #[.agg #[.string ByteArray.empty, .int .i64 0, .int .i64 0, .int .i64 0, .int .i64 0], .int .i64 111]) (by simp [results, Tryd.results81, go_sem]; rfl) rfl ?_
    exact ⟨rfl, FQ⟩)
set_option maxHeartbeats 4000000 in
set_option maxRecDepth 100000 in
theorem row_yes (i : Nat) (hi : i < 29) (w : World) (G : TabW w) : Calls Tryd.prog 81 #[.int .i64 i] w fun e w' => e = .returned (.tuple #[.agg #[.string (rRow i).1, .int .i64 (rRow i).2.1, .int .i64 (rRow i).2.2.1, .int .i64 (rRow i).2.2.2.1, .int .i64 (rRow i).2.2.2.2], .int .i64 0]) ∧ Fr w w' [] := by
  obtain ⟨k0, k1, k2, k3, k4⟩ := G.tab i hi
  have h1 : 3 < w.heap.size := by have := G.lt; omega
  clear G
  generalize (rRow i).1 = t0 at k0 ⊢
  generalize (rRow i).2.1 = t1 at k1 ⊢
  generalize (rRow i).2.2.1 = t2 at k2 ⊢
  generalize (rRow i).2.2.2.1 = t3 at k3 ⊢
  generalize (rRow i).2.2.2.2 = t4 at k4 ⊢
  have b0 : (0 : Int) ≤ (i : Int) := by omega
  have b1 : (i : Int) < 29 := by omega
  have hu := Tryd.underlying155
  go_enter Tryd.func81, Tryd.ntmps81
  go_wp2
  refine bodyPost_ret (v := .tuple #[.agg #[.string t0, .int .i64 t1, .int .i64 t2, .int .i64 t3, .int .i64 t4], .int .i64 0]) (by simp [results, Tryd.results81, go_sem]) rfl ?_
  exact ⟨rfl, FQ⟩
end Go.Proofs.YtmfbdmjgkcijcaaDoor.H
