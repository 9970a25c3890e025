/- The program's tables (code.kinds, payoffref11.table, verify.number, verify.truth) in memory; what looks into them: Effect, Valid, row, gives. -/
import Derived.Test.YtpoehkacfmljcaaGreatDoorZHA
import Derived.Outline
import Derived.Test.YtpoehkacfmljcaaGreatDoorProg
import Derived.Below
import Derived.Deep.Draws
import Derived.Deep.AppendLies
import Derived.Maps.AppendAt
import Derived.OwnWalk
import Derived.Laws.BytesArg
import Derived.Laws.MakeOwn
import Derived.Laws.OwnMore
import Derived.Deep.OwnRows
import Derived.Tactics
import Derived.Lib.ConvBytes
import Derived.Laws.Slices
import Derived.WalkKit
import Derived.KernelRfl
import Derived.RowKit3
import Derived.Deep.LoopGhost
import Derived.Deep.QuietTactic
import Derived.BigQuiet
import Derived.WideLaws
import Derived.Deep.DeepCutAuto
import Derived.Deep.CutBlock
import Derived.Deep.RegionHeld3
import Derived.Laws.Rows
import Derived.Lib.AppendStr
import Derived.ArgAppend
import Derived.Laws.IdiomCopy
import Derived.OrdersHeld
import Derived.Laws.BitsLemmas
import Derived.RowKit
import Derived.Test.YtpoehkacfmljcaaGreatDoorZV
import Derived.Test.YtpoehkacfmljcaaGreatDoorRows
import Derived.Test.YtpoehkacfmljcaaGreatDoorTie
import Derived.ProofKit
import Derived.LaidMore
import Derived.OpenShut
import Derived.ShutString
import Derived.ChangeOld
import Derived.SizedLaws
import Derived.Lib.LaidTab
import Derived.Lib.SmallJoins
import Derived.Deep.Strs
set_option maxHeartbeats 4000000
set_option maxRecDepth 100000
namespace Go.Proofs.YtpoehkacfmljcaaGreatDoor.H
open Go.RowKit Go.Proofs.YtpoehkacfmljcaaGreatDoorW.PrintWords Go.Proofs.YtpoehkacfmljcaaGreatDoorW.PrintLast Go.Proofs.YtpoehkacfmljcaaGreatDoorW.PrintMore
attribute [local go_sem] max2_int min2_int max_two min_two max_three min_three max_four min_four
set_option linter.unusedVariables false
set_option linter.unusedSimpArgs false
def kTab : List (ByteArray × Int × Int × Int × Int × Int) := [(⟨#[101, 110, 100]⟩, 0, 0, 0, 0, 0), (⟨#[99, 111, 110, 115, 116]⟩, 1, 16383, 0, 0, 1), (⟨#[98, 111, 111, 108]⟩, 1, 1, 0, 0, 1), (⟨#[111, 98, 115]⟩, 2, 63, 3660, 0, 1), (⟨#[108, 111, 97, 100]⟩, 1, 32767, 0, 0, 1), (⟨#[115, 116, 111, 114, 101]⟩, 1, 32767, 0, 1, 0), (⟨#[107, 101, 101, 112]⟩, 1, 16383, 0, 1, 1), (⟨#[103, 101, 116]⟩, 1, 16383, 0, 0, 1), (⟨#[100, 114, 111, 112]⟩, 0, 0, 0, 1, 0), (⟨#[97, 100, 100]⟩, 0, 0, 0, 2, 1), (⟨#[115, 117, 98]⟩, 0, 0, 0, 2, 1), (⟨#[109, 117, 108]⟩, 0, 0, 0, 2, 1), (⟨#[110, 101, 103]⟩, 0, 0, 0, 1, 1), (⟨#[100, 105, 118]⟩, 0, 0, 0, 2, 1), (⟨#[109, 111, 100]⟩, 0, 0, 0, 2, 1), (⟨#[97, 98, 115]⟩, 0, 0, 0, 1, 1), (⟨#[109, 105, 110]⟩, 0, 0, 0, 2, 1), (⟨#[109, 97, 120]⟩, 0, 0, 0, 2, 1), (⟨#[114, 97, 116, 105, 111]⟩, 1, 4, 0, 3, 1), (⟨#[108, 116]⟩, 0, 0, 0, 2, 1), (⟨#[108, 101]⟩, 0, 0, 0, 2, 1), (⟨#[103, 116]⟩, 0, 0, 0, 2, 1), (⟨#[103, 101]⟩, 0, 0, 0, 2, 1), (⟨#[101, 113]⟩, 0, 0, 0, 2, 1), (⟨#[110, 101]⟩, 0, 0, 0, 2, 1), (⟨#[110, 111, 116]⟩, 0, 0, 0, 1, 1), (⟨#[106, 117, 109, 112]⟩, 1, 262143, 0, 0, 0), (⟨#[122, 101, 114, 111]⟩, 1, 262143, 0, 1, 0), (⟨#[102, 108, 111, 119]⟩, 1, 4095, 0, 1, 0)]
def rTab : List (ByteArray × Int × Int × Int × Int) := [(⟨#[101, 110, 100]⟩, (-1), (-1), 0, 0), (⟨#[99, 111, 110, 115, 116]⟩, 16383, (-1), 0, 1), (⟨#[98, 111, 111, 108]⟩, 1, (-1), 0, 1), (⟨#[111, 98, 115]⟩, 63, 3660, 0, 1), (⟨#[108, 111, 97, 100]⟩, 32767, (-1), 0, 1), (⟨#[115, 116, 111, 114, 101]⟩, 32767, (-1), 1, 0), (⟨#[107, 101, 101, 112]⟩, 16383, (-1), 1, 1), (⟨#[103, 101, 116]⟩, 16383, (-1), 0, 1), (⟨#[100, 114, 111, 112]⟩, (-1), (-1), 1, 0), (⟨#[97, 100, 100]⟩, (-1), (-1), 2, 1), (⟨#[115, 117, 98]⟩, (-1), (-1), 2, 1), (⟨#[109, 117, 108]⟩, (-1), (-1), 2, 1), (⟨#[110, 101, 103]⟩, (-1), (-1), 1, 1), (⟨#[100, 105, 118]⟩, (-1), (-1), 2, 1), (⟨#[109, 111, 100]⟩, (-1), (-1), 2, 1), (⟨#[97, 98, 115]⟩, (-1), (-1), 1, 1), (⟨#[109, 105, 110]⟩, (-1), (-1), 2, 1), (⟨#[109, 97, 120]⟩, (-1), (-1), 2, 1), (⟨#[114, 97, 116, 105, 111]⟩, 4, (-1), 3, 1), (⟨#[108, 116]⟩, (-1), (-1), 2, 1), (⟨#[108, 101]⟩, (-1), (-1), 2, 1), (⟨#[103, 116]⟩, (-1), (-1), 2, 1), (⟨#[103, 101]⟩, (-1), (-1), 2, 1), (⟨#[101, 113]⟩, (-1), (-1), 2, 1), (⟨#[110, 101]⟩, (-1), (-1), 2, 1), (⟨#[110, 111, 116]⟩, (-1), (-1), 1, 1), (⟨#[106, 117, 109, 112]⟩, 262143, (-1), 0, 0), (⟨#[122, 101, 114, 111]⟩, 262143, (-1), 1, 0), (⟨#[102, 108, 111, 119]⟩, 4095, (-1), 1, 0)]
def kRow (i : Nat) : ByteArray × Int × Int × Int × Int × Int := kTab.getD i (ByteArray.empty, 0, 0, 0, 0, 0)
def rRow (i : Nat) : ByteArray × Int × Int × Int × Int := rTab.getD i (ByteArray.empty, 0, 0, 0, 0)
structure TabW (w : World) : Prop where
 lt : 3 < w.heap.size
 num : w.cell? ⟨2, 0, none⟩ = some (.bool false)
 tru : w.cell? ⟨3, 0, none⟩ = some (.bool true)
 knd : ∀ i : Nat, i < 29 → w.cell? ⟨0, i * 6, none⟩ = some (.string (kRow i).1) ∧ w.cell? ⟨0, i * 6 + 1, none⟩ = some (.int .i64 (kRow i).2.1) ∧ w.cell? ⟨0, i * 6 + 2, none⟩ = some (.int .i64 (kRow i).2.2.1) ∧ w.cell? ⟨0, i * 6 + 3, none⟩ = some (.int .i64 (kRow i).2.2.2.1) ∧ w.cell? ⟨0, i * 6 + 4, none⟩ = some (.int .i64 (kRow i).2.2.2.2.1) ∧ w.cell? ⟨0, i * 6 + 5, none⟩ = some (.int .i64 (kRow i).2.2.2.2.2)
 tab : ∀ i : Nat, i < 29 → w.cell? ⟨1, i * 5, none⟩ = some (.string (rRow i).1) ∧ w.cell? ⟨1, i * 5 + 1, none⟩ = some (.int .i64 (rRow i).2.1) ∧ w.cell? ⟨1, i * 5 + 2, none⟩ = some (.int .i64 (rRow i).2.2.1) ∧ w.cell? ⟨1, i * 5 + 3, none⟩ = some (.int .i64 (rRow i).2.2.2.1) ∧ w.cell? ⟨1, i * 5 + 4, none⟩ = some (.int .i64 (rRow i).2.2.2.2)
theorem fr_cell {w w' : World} {L : List Nat} (h : Fr w w' L) {b o : Nat} (hb : b < w.heap.size) (hn : b ∉ L) : w'.cell? ⟨b, o, none⟩ = w.cell? ⟨b, o, none⟩ := by
 simp only [World.cell?, h.block b hb hn]
theorem TabW.fr {w w' : World} {L : List Nat} (h : TabW w) (hf : Fr w w' L) (hL : ∀ b ∈ L, 3 < b) : TabW w' := by
 have hlt := h.lt
 have hn : ∀ b, b ≤ 3 → b ∉ L := fun b hb hm => by have := hL b hm; omega
 have hc : ∀ b o, b ≤ 3 → w'.cell? ⟨b, o, none⟩ = w.cell? ⟨b, o, none⟩ := fun b o hb => fr_cell hf (by omega) (hn b hb)
 refine ⟨Nat.lt_of_lt_of_le h.lt hf.size, ?_, ?_, fun i hi => ?_, fun i hi => ?_⟩
 ·rw [hc _ _ (by omega)]; exact h.num
 ·rw [hc _ _ (by omega)]; exact h.tru
 ·simp only [hc _ _ (show 0 ≤ 3 by omega)]; exact h.knd i hi
 ·simp only [hc _ _ (show 1 ≤ 3 by omega)]; exact h.tab i hi
theorem TabW.fr0 {w w' : World} (h : TabW w) (hf : Fr w w' []) : TabW w' := h.fr hf (by simp)
theorem known_calls (a : Int) (w : World) : Calls Tryz.prog 119 #[.int .i64 a] w fun e w' => e = .returned (.bool (decide (0 ≤ a) && decide (a < 29))) ∧ Drawn0 w w' := by
 by_cases h : 0 ≤ a <;> by_cases h2 : a < 29
 all_goals (
  go_enter Tryz.func119, Tryz.ntmps119
  go_wp2
  go_ret
  exact ⟨by simp [h, h2], DQ⟩)
theorem effect_calls (i : Nat) (hi : i < 29) (w : World) (G : TabW w) : Calls Tryz.prog 158 #[.int .i64 i] w fun e w' => e = .returned (.tuple #[.int .i64 (kRow i).2.2.2.2.1, .int .i64 (kRow i).2.2.2.2.2, .int .i64 0]) ∧ Drawn0 w w' := by
 obtain ⟨k0, k1, k2, k3, k4, k5⟩ := G.knd i hi
 clear k0 k1 k2 k3 G
 have hn : (decide (0 ≤ (i : Int)) && decide ((i : Int) < 29)) = true := by simp; omega
 generalize (kRow i).2.2.2.2.1 = t4 at k4 ⊢
 generalize (kRow i).2.2.2.2.2 = t5 at k5 ⊢
 have b0 : (0 : Int) ≤ (i : Int) := by omega
 have b1 : (i : Int) < 29 := by omega
 go_enter Tryz.func158, Tryz.ntmps158
 go_wp2_with (first | (go_at_call 119; (with_reducible refine (known_calls _ _).mono ?_); rintro e w' ⟨rfl, ⟨nd, rfl⟩⟩))
 go_region
 all_goals (
  (try go_wp2)
  go_ret3
  exact ⟨(by first | rfl | (simp; done) | (simp [*]; done)), DQ⟩)
def validC (op A B : Int) : Int := if 0 ≤ op ∧ op < 29 ∧ 0 ≤ A ∧ A ≤ (kRow op.toNat).2.2.1 ∧ 0 ≤ B ∧ B ≤ (kRow op.toNat).2.2.2.1 then 0 else 111
theorem valid_no (op A B : Int) (hop : ¬ (0 ≤ op ∧ op < 29)) (w : World) : Calls Tryz.prog 92 #[.agg #[.int .i64 op, .int .i64 A, .int .i64 B]] w fun e w' => e = .returned (.int .i64 111) ∧ Fr w w' [] := by
 have hn : (decide (0 ≤ op) && decide (op < 29)) = false := by
  rw [Bool.and_eq_false_iff]; simp only [decide_eq_false_iff_not]; omega
 go_enter Tryz.func92, Tryz.ntmps92
 go_wp2_with (first | (go_at_call 119; (with_reducible refine (known_calls _ _).mono ?_); rintro e w' ⟨rfl, ⟨nd, rfl⟩⟩))
 go_ret
 exact ⟨(by first | rfl | (simp; done) | (simp [*]; done)), FQ⟩
theorem valid_yes (i : Nat) (hi : i < 29) (A B : Int) (w : World) (G : TabW w) : Calls Tryz.prog 92 #[.agg #[.int .i64 i, .int .i64 A, .int .i64 B]] w fun e w' => e = .returned (.int .i64 (validC i A B)) ∧ Fr w w' [] := by
 obtain ⟨k0, k1, k2, k3, k4, k5⟩ := G.knd i hi
 have h1 : 0 < w.heap.size := by have := G.lt; omega
 clear G
 have hn : (decide (0 ≤ (i : Int)) && decide ((i : Int) < 29)) = true := by simp; omega
 have hv : validC i A B = if 0 ≤ A ∧ A ≤ (kRow i).2.2.1 ∧ 0 ≤ B ∧ B ≤ (kRow i).2.2.2.1 then 0 else 111 := by
  unfold validC
  have e : ((i : Int)).toNat = i := by simp
  rw [e]
  by_cases h : 0 ≤ A ∧ A ≤ (kRow i).2.2.1 ∧ 0 ≤ B ∧ B ≤ (kRow i).2.2.2.1
  ·rw [if_pos h, if_pos ⟨by omega, by omega, h.1, h.2.1, h.2.2.1, h.2.2.2⟩]
  ·rw [if_neg h, if_neg (fun hh => h ⟨hh.2.2.1, hh.2.2.2.1, hh.2.2.2.2.1, hh.2.2.2.2.2⟩)]
 rw [hv]
 clear hv
 generalize (kRow i).1 = t0 at k0 ⊢
 generalize (kRow i).2.1 = t1 at k1 ⊢
 generalize (kRow i).2.2.1 = t2 at k2 ⊢
 generalize (kRow i).2.2.2.1 = t3 at k3 ⊢
 generalize (kRow i).2.2.2.2.1 = t4 at k4 ⊢
 generalize (kRow i).2.2.2.2.2 = t5 at k5 ⊢
 have b0 : (0 : Int) ≤ (i : Int) := by omega
 have b1 : (i : Int) < 29 := by omega
 have hu := Tryz.underlying187
 have hc : A < 0 ∨ (0 ≤ A ∧ t2 < A) ∨ (0 ≤ A ∧ A ≤ t2 ∧ B < 0) ∨ (0 ≤ A ∧ A ≤ t2 ∧ 0 ≤ B ∧ t3 < B) ∨ (0 ≤ A ∧ A ≤ t2 ∧ 0 ≤ B ∧ B ≤ t3) := by omega
 rcases hc with c1 | ⟨c1, c2⟩ | ⟨c1, c2, c3⟩ | ⟨c1, c2, c3, c4⟩ | ⟨c1, c2, c3, c4⟩
 all_goals (
  (split <;> try (exfalso; omega))
  rename_i hif
  clear hif
  go_enter Tryz.func92, Tryz.ntmps92
  go_wp2_with (first | (go_at_call 119; (with_reducible refine (known_calls _ _).mono ?_); rintro e w' ⟨rfl, ⟨nd, rfl⟩⟩))
  go_ret
  exact ⟨(by first | rfl | (simp; done) | (simp [*]; done)), FQ⟩)
theorem valid_calls (op A B : Int) (w : World) (G : TabW w) : Calls Tryz.prog 92 #[.agg #[.int .i64 op, .int .i64 A, .int .i64 B]] w fun e w' => e = .returned (.int .i64 (validC op A B)) ∧ Fr w w' [] := by
 by_cases h : 0 ≤ op ∧ op < 29
 ·obtain ⟨i, rfl⟩ : ∃ i : Nat, op = i := ⟨op.toNat, by omega⟩
  exact valid_yes i (by omega) A B w G
 ·rw [show validC op A B = 111 by unfold validC; rw [if_neg (fun hh => h ⟨hh.1, hh.2.1⟩)]]
  exact valid_no op A B h w
def givesB (op : Int) : Bool := decide (op = 2 ∨ (19 ≤ op ∧ op ≤ 25))
theorem gives_calls (op : Int) (w : World) (G : TabW w) : Calls Tryz.prog 162 #[.int .i64 op] w fun e w' => e = .returned (.agg #[.bool (givesB op)]) ∧ Fr w w' [] := by
 have g0 := G.num
 have g2 := G.tru
 have h1 : 2 < w.heap.size := by have := G.lt; omega
 have h2 : 3 < w.heap.size := by have := G.lt; omega
 clear G
 have hu := Tryz.underlying251
 have hc : op = 2 ∨ ((op == 2) = false ∧ 19 ≤ op ∧ op ≤ 25) ∨ ((op == 2) = false ∧ 19 ≤ op ∧ 25 < op) ∨ ((op == 2) = false ∧ op < 19) := by
  simp only [beq_eq_false_iff_ne, ne_eq]; omega
 have hv : givesB op = if op = 2 ∨ (19 ≤ op ∧ op ≤ 25) then true else false := by unfold givesB; by_cases h : op = 2 ∨ (19 ≤ op ∧ op ≤ 25) <;> simp [h]
 rw [hv]
 clear hv
 rcases hc with rfl | ⟨c1, c2, c3⟩ | ⟨c1, c2, c3⟩ | ⟨c1, c2⟩
 all_goals (
  (try rw [if_neg (by simp only [beq_eq_false_iff_ne, ne_eq] at c1; omega)])
  (try rw [if_pos (by omega)])
  go_enter Tryz.func162, Tryz.ntmps162
  go_wp2
  refine bodyPost_ret (results_cell_row rfl _ _ w.heap.size 251 #[.bool _] (0, 0) _ rfl (blk_newN rfl) Tryz.underlying251 rfl rfl) rfl ?_
  exact ⟨rfl, FQ⟩)
theorem row_no (op : Int) (hop : op < 0 ∨ 29 ≤ op) (w : World) : Calls Tryz.prog 133 #[.int .i64 op] w fun e w' => e = .returned (.tuple #[.agg #[.string ByteArray.empty, .int .i64 0, .int .i64 0, .int .i64 0, .int .i64 0], .int .i64 111]) ∧ Fr w w' [] := by
 have hop' : op < 0 ∨ (0 ≤ op ∧ 29 ≤ op) := by omega
 rcases hop' with h | ⟨h, h2⟩
 all_goals (
  go_enter Tryz.func133, Tryz.ntmps133
  go_wp2
  refine bodyPost_ret (v := .tuple #[.agg #[.string ByteArray.empty, .int .i64 0, .int .i64 0, .int .i64 0, .int .i64 0], .int .i64 111]) (by simp [results, Tryz.results133, go_sem]; rfl) rfl ?_
  exact ⟨rfl, FQ⟩)
theorem row_yes (i : Nat) (hi : i < 29) (w : World) (G : TabW w) : Calls Tryz.prog 133 #[.int .i64 i] w fun e w' => e = .returned (.tuple #[.agg #[.string (rRow i).1, .int .i64 (rRow i).2.1, .int .i64 (rRow i).2.2.1, .int .i64 (rRow i).2.2.2.1, .int .i64 (rRow i).2.2.2.2], .int .i64 0]) ∧ Fr w w' [] := by
 obtain ⟨k0, k1, k2, k3, k4⟩ := G.tab i hi
 have h1 : 1 < w.heap.size := by have := G.lt; omega
 clear G
 generalize (rRow i).1 = t0 at k0 ⊢
 generalize (rRow i).2.1 = t1 at k1 ⊢
 generalize (rRow i).2.2.1 = t2 at k2 ⊢
 generalize (rRow i).2.2.2.1 = t3 at k3 ⊢
 generalize (rRow i).2.2.2.2 = t4 at k4 ⊢
 have b0 : (0 : Int) ≤ (i : Int) := by omega
 have b1 : (i : Int) < 29 := by omega
 have hu := Tryz.underlying205
 go_enter Tryz.func133, Tryz.ntmps133
 go_wp2
 refine bodyPost_ret (v := .tuple #[.agg #[.string t0, .int .i64 t1, .int .i64 t2, .int .i64 t3, .int .i64 t4], .int .i64 0]) (by simp [results, Tryz.results133, go_sem]) rfl ?_
 exact ⟨rfl, FQ⟩
end Go.Proofs.YtpoehkacfmljcaaGreatDoor.H
namespace Go.Proofs.YtpoehkacfmljcaaGreatDoor.M
open Go.RowKit Go.Proofs.YtpoehkacfmljcaaGreatDoorW.PrintWords Go.Proofs.YtpoehkacfmljcaaGreatDoorW.PrintLast Go.Proofs.YtpoehkacfmljcaaGreatDoorW.PrintMore
attribute [local go_sem] max2_int min2_int max_two min_two max_three min_three max_four min_four   -- for this text's walks alone
set_option linter.unusedVariables false
set_option linter.unusedSimpArgs false



def errW : Option Int → Value
 | none => .nilIface
 | some c => .iface 0 (.int .i64 c)
theorem errW_none : errW none = .nilIface := rfl
theorem errW_some (c : Int) : errW (some c) = .iface 0 (.int .i64 c) := rfl

theorem info3 : (Tryz.prog.info? 3).map (fun i => (i.zero, i.size, i.bytes)) = some (some (.int .i64 0), 1, 8) := by kernel_rfl
theorem info5 : (Tryz.prog.info? 5).map (fun i => (i.zero, i.size, i.bytes)) = some (some (.int .u8 0), 1, 1) := by kernel_rfl
theorem info9 : (Tryz.prog.info? 9).map (fun i => (i.zero, i.size, i.bytes)) = some (some (.string ⟨#[]⟩), 1, 16) := by kernel_rfl
theorem info39 : (Tryz.prog.info? 39).map (fun i => (i.zero, i.size, i.bytes)) = some (some (.slice none 0 0), 1, 24) := by kernel_rfl
theorem info45 : (Tryz.prog.info? 45).map (fun i => (i.zero, i.size, i.bytes)) = some (some (.agg #[(.bool false), (.int .i64 0)]), 2, 16) := by kernel_rfl
theorem info54 : (Tryz.prog.info? 54).map (fun i => (i.zero, i.size, i.bytes)) = some (some (.agg #[(.int .i64 0), (.slice none 0 0)]), 2, 32) := by kernel_rfl
theorem info113 : (Tryz.prog.info? 113).map (fun i => (i.zero, i.size, i.bytes)) = some (some (.agg #[(.int .i64 0), (.int .i64 0), (.int .i64 0)]), 3, 24) := by kernel_rfl
theorem info236 : (Tryz.prog.info? 236).map (fun i => (i.zero, i.size, i.bytes)) = some (some (.agg #[(.int .i64 0), (.int .i64 0)]), 2, 16) := by kernel_rfl
/-! #### struct type 45 -/
structure S45 where
 f0 : Bool
 f1 : Int
def z45 : S45 := ⟨false, (0 : Int)⟩
def k45 : Kd S45 := Kd.iso (Kd.pair Kd.bool (Kd.int .i64)) (fun x : S45 => (x.f0, x.f1))
theorem k45_open {w : World} {x : S45} {cs : List Value} (h : k45.K w x cs) : cs = [.bool x.f0, .int .i64 x.f1] := by
 obtain ⟨_, _, rfl, rfl, rfl⟩ := h
 exact rfl
theorem k45_openM {w : World} {base : Nat} {ok : Nat → Prop} {x : S45} {cs : List Value} (h : k45.M w base ok x cs) : cs = [.bool x.f0, .int .i64 x.f1] := by
 obtain ⟨_, _, rfl, rfl, rfl⟩ := h
 exact rfl
theorem k45_mk (w : World) (x : S45)  : k45.K w x [.bool x.f0, .int .i64 x.f1] := ⟨[.bool x.f0], [.int .i64 x.f1], rfl, rfl, rfl⟩
theorem k45_mkM (w : World) (base : Nat) (ok : Nat → Prop) (x : S45)  : k45.M w base ok x [.bool x.f0, .int .i64 x.f1] := ⟨[.bool x.f0], [.int .i64 x.f1], rfl, rfl, rfl⟩
def rd_T45 (xs : List S45) (i : Int) : S45 := xs.getD i.toNat z45
theorem at_T45 {w : World} {A : Option Addr} {n : Nat} {xs : List S45} (h : Kd.C k45 w A n xs) (i : Int) (h0 : 0 ≤ i) (h1 : i < n) : ∃ ad , A = some ad ∧ w.cell? (ad.add (i.toNat * 2)) = some (.bool (rd_T45 xs i).f0) ∧ w.cell? ⟨(ad.add (i.toNat * 2)).block, (ad.add (i.toNat * 2)).off + 1, none⟩ = some (.int .i64 (rd_T45 xs i).f1) := by
 obtain ⟨ad, c, e, _, hK, hc0⟩ := Kd.C_get h z45 i h0 h1
 have hc : ∀ j u, c[j]? = some u → w.cell? (ad.add (i.toNat * 2 + j)) = some u := hc0
 obtain rfl := k45_open hK
 exact ⟨ad, e, hc 0 _ rfl, by rw [← add_field _ _ 1 (by omega)]; exact hc 1 _ rfl⟩

def rd_L3 (xs : List (List S45)) (i : Int) : (List S45) := xs.getD i.toNat ([] : List S45)
theorem at_L3 {w : World} {A : Option Addr} {n : Nat} {xs : List (List S45)} (h : Kd.C (Kd.slice 45 k45) w A n xs) (i : Int) (h0 : 0 ≤ i) (h1 : i < n) : ∃ ad A0 c0, A = some ad ∧ w.cell? (ad.add i.toNat) = some (.slice A0 (rd_L3 xs i).length c0) ∧ (rd_L3 xs i).length ≤ c0 ∧ k45.C w A0 (rd_L3 xs i).length (rd_L3 xs i) := by
 obtain ⟨ad, c, e, _, hK, hc0⟩ := Kd.C_get h ([] : List S45) i h0 h1
 have hc : ∀ j u, c[j]? = some u → w.cell? (ad.add (i.toNat * 1 + j)) = some u := hc0
 obtain ⟨A0, c0, rfl, l0, g0⟩ := hK
 exact ⟨ad, A0, c0, e, by have hq := hc 0 _ rfl; rwa [Nat.mul_one, Nat.add_zero] at hq, l0, g0⟩

/-! #### struct type 113 -/
structure S113 where
 f0 : Int
 f1 : Int
 f2 : Int
def z113 : S113 := ⟨(0 : Int), (0 : Int), (0 : Int)⟩
def k113 : Kd S113 := Kd.iso (Kd.pair (Kd.int .i64) (Kd.pair (Kd.int .i64) (Kd.int .i64))) (fun x : S113 => (x.f0, x.f1, x.f2))
theorem k113_open {w : World} {x : S113} {cs : List Value} (h : k113.K w x cs) : cs = [.int .i64 x.f0, .int .i64 x.f1, .int .i64 x.f2] := by
 obtain ⟨_, _, rfl, rfl, ⟨_, _, rfl, rfl, rfl⟩⟩ := h
 exact rfl
theorem k113_openM {w : World} {base : Nat} {ok : Nat → Prop} {x : S113} {cs : List Value} (h : k113.M w base ok x cs) : cs = [.int .i64 x.f0, .int .i64 x.f1, .int .i64 x.f2] := by
 obtain ⟨_, _, rfl, rfl, ⟨_, _, rfl, rfl, rfl⟩⟩ := h
 exact rfl
theorem k113_mk (w : World) (x : S113)  : k113.K w x [.int .i64 x.f0, .int .i64 x.f1, .int .i64 x.f2] := ⟨[.int .i64 x.f0], [.int .i64 x.f1, .int .i64 x.f2], rfl, rfl, ⟨[.int .i64 x.f1], [.int .i64 x.f2], rfl, rfl, rfl⟩⟩
theorem k113_mkM (w : World) (base : Nat) (ok : Nat → Prop) (x : S113)  : k113.M w base ok x [.int .i64 x.f0, .int .i64 x.f1, .int .i64 x.f2] := ⟨[.int .i64 x.f0], [.int .i64 x.f1, .int .i64 x.f2], rfl, rfl, ⟨[.int .i64 x.f1], [.int .i64 x.f2], rfl, rfl, rfl⟩⟩
def rd_T113 (xs : List S113) (i : Int) : S113 := xs.getD i.toNat z113
theorem at_T113 {w : World} {A : Option Addr} {n : Nat} {xs : List S113} (h : Kd.C k113 w A n xs) (i : Int) (h0 : 0 ≤ i) (h1 : i < n) : ∃ ad , A = some ad ∧ w.cell? (ad.add (i.toNat * 3)) = some (.int .i64 (rd_T113 xs i).f0) ∧ w.cell? ⟨(ad.add (i.toNat * 3)).block, (ad.add (i.toNat * 3)).off + 1, none⟩ = some (.int .i64 (rd_T113 xs i).f1) ∧ w.cell? ⟨(ad.add (i.toNat * 3)).block, (ad.add (i.toNat * 3)).off + 2, none⟩ = some (.int .i64 (rd_T113 xs i).f2) := by
 obtain ⟨ad, c, e, _, hK, hc0⟩ := Kd.C_get h z113 i h0 h1
 have hc : ∀ j u, c[j]? = some u → w.cell? (ad.add (i.toNat * 3 + j)) = some u := hc0
 obtain rfl := k113_open hK
 exact ⟨ad, e, hc 0 _ rfl, by rw [← add_field _ _ 1 (by omega)]; exact hc 1 _ rfl, by rw [← add_field _ _ 2 (by omega)]; exact hc 2 _ rfl⟩

def rd_L6 (xs : List (List Int)) (i : Int) : (List Int) := xs.getD i.toNat ([] : List Int)
theorem at_L6 {w : World} {A : Option Addr} {n : Nat} {xs : List (List Int)} (h : Kd.C (Kd.slice 3 (Kd.int .i64)) w A n xs) (i : Int) (h0 : 0 ≤ i) (h1 : i < n) : ∃ ad A0 c0, A = some ad ∧ w.cell? (ad.add i.toNat) = some (.slice A0 (rd_L6 xs i).length c0) ∧ (rd_L6 xs i).length ≤ c0 ∧ (Kd.int .i64).C w A0 (rd_L6 xs i).length (rd_L6 xs i) := by
 obtain ⟨ad, c, e, _, hK, hc0⟩ := Kd.C_get h ([] : List Int) i h0 h1
 have hc : ∀ j u, c[j]? = some u → w.cell? (ad.add (i.toNat * 1 + j)) = some u := hc0
 obtain ⟨A0, c0, rfl, l0, g0⟩ := hK
 exact ⟨ad, A0, c0, e, by have hq := hc 0 _ rfl; rwa [Nat.mul_one, Nat.add_zero] at hq, l0, g0⟩

def rd_L7 (xs : List (List S113)) (i : Int) : (List S113) := xs.getD i.toNat ([] : List S113)
theorem at_L7 {w : World} {A : Option Addr} {n : Nat} {xs : List (List S113)} (h : Kd.C (Kd.slice 113 k113) w A n xs) (i : Int) (h0 : 0 ≤ i) (h1 : i < n) : ∃ ad A0 c0, A = some ad ∧ w.cell? (ad.add i.toNat) = some (.slice A0 (rd_L7 xs i).length c0) ∧ (rd_L7 xs i).length ≤ c0 ∧ k113.C w A0 (rd_L7 xs i).length (rd_L7 xs i) := by
 obtain ⟨ad, c, e, _, hK, hc0⟩ := Kd.C_get h ([] : List S113) i h0 h1
 have hc : ∀ j u, c[j]? = some u → w.cell? (ad.add (i.toNat * 1 + j)) = some u := hc0
 obtain ⟨A0, c0, rfl, l0, g0⟩ := hK
 exact ⟨ad, A0, c0, e, by have hq := hc 0 _ rfl; rwa [Nat.mul_one, Nat.add_zero] at hq, l0, g0⟩

/-! #### struct type 54 -/
structure S54 where
 f0 : Int
 f1 : (List S113)
def z54 : S54 := ⟨(0 : Int), ([] : List S113)⟩
def k54 : Kd S54 := Kd.iso (Kd.pair (Kd.int .i64) (Kd.slice 113 k113)) (fun x : S54 => (x.f0, x.f1))
theorem k54_open {w : World} {x : S54} {cs : List Value} (h : k54.K w x cs) : ∃ A1 c1, cs = [.int .i64 x.f0, .slice A1 x.f1.length c1] ∧ x.f1.length ≤ c1 ∧ k113.C w A1 x.f1.length x.f1 := by
 obtain ⟨_, _, rfl, rfl, ⟨A1, c1, rfl, l1, g1⟩⟩ := h
 exact ⟨A1, c1, rfl, l1, g1⟩
theorem k54_openM {w : World} {base : Nat} {ok : Nat → Prop} {x : S54} {cs : List Value} (h : k54.M w base ok x cs) : ∃ v1, cs = [.int .i64 x.f0, v1] ∧ k113.R 113 w base ok v1 x.f1 := by
 obtain ⟨_, _, rfl, rfl, ⟨v1, rfl, g1⟩⟩ := h
 exact ⟨v1, rfl, g1⟩
theorem k54_mk (w : World) (x : S54) {A1 : Option Addr} {c1 : Nat} (l1 : x.f1.length ≤ c1) (g1 : k113.C w A1 x.f1.length x.f1) : k54.K w x [.int .i64 x.f0, .slice A1 x.f1.length c1] := ⟨[.int .i64 x.f0], [.slice A1 x.f1.length c1], rfl, rfl, ⟨A1, c1, rfl, l1, g1⟩⟩
theorem k54_mkM (w : World) (base : Nat) (ok : Nat → Prop) (x : S54) {v1 : Value} (g1 : k113.R 113 w base ok v1 x.f1) : k54.M w base ok x [.int .i64 x.f0, v1] := ⟨[.int .i64 x.f0], [v1], rfl, rfl, ⟨v1, rfl, g1⟩⟩
def rd_T54 (xs : List S54) (i : Int) : S54 := xs.getD i.toNat z54
theorem at_T54 {w : World} {A : Option Addr} {n : Nat} {xs : List S54} (h : Kd.C k54 w A n xs) (i : Int) (h0 : 0 ≤ i) (h1 : i < n) : ∃ ad A1 c1, A = some ad ∧ w.cell? (ad.add (i.toNat * 2)) = some (.int .i64 (rd_T54 xs i).f0) ∧ w.cell? ⟨(ad.add (i.toNat * 2)).block, (ad.add (i.toNat * 2)).off + 1, none⟩ = some (.slice A1 (rd_T54 xs i).f1.length c1) ∧ (rd_T54 xs i).f1.length ≤ c1 ∧ k113.C w A1 (rd_T54 xs i).f1.length (rd_T54 xs i).f1 := by
 obtain ⟨ad, c, e, _, hK, hc0⟩ := Kd.C_get h z54 i h0 h1
 have hc : ∀ j u, c[j]? = some u → w.cell? (ad.add (i.toNat * 2 + j)) = some u := hc0
 obtain ⟨A1, c1, rfl, l1, g1⟩ := k54_open hK
 exact ⟨ad, A1, c1, e, hc 0 _ rfl, by rw [← add_field _ _ 1 (by omega)]; exact hc 1 _ rfl, l1, g1⟩

/-! #### struct type 236 -/
structure S236 where
 f0 : Int
 f1 : Int
def z236 : S236 := ⟨(0 : Int), (0 : Int)⟩
def k236 : Kd S236 := Kd.iso (Kd.pair (Kd.int .i64) (Kd.int .i64)) (fun x : S236 => (x.f0, x.f1))
theorem k236_open {w : World} {x : S236} {cs : List Value} (h : k236.K w x cs) : cs = [.int .i64 x.f0, .int .i64 x.f1] := by
 obtain ⟨_, _, rfl, rfl, rfl⟩ := h
 exact rfl
theorem k236_openM {w : World} {base : Nat} {ok : Nat → Prop} {x : S236} {cs : List Value} (h : k236.M w base ok x cs) : cs = [.int .i64 x.f0, .int .i64 x.f1] := by
 obtain ⟨_, _, rfl, rfl, rfl⟩ := h
 exact rfl
theorem k236_mk (w : World) (x : S236)  : k236.K w x [.int .i64 x.f0, .int .i64 x.f1] := ⟨[.int .i64 x.f0], [.int .i64 x.f1], rfl, rfl, rfl⟩
theorem k236_mkM (w : World) (base : Nat) (ok : Nat → Prop) (x : S236)  : k236.M w base ok x [.int .i64 x.f0, .int .i64 x.f1] := ⟨[.int .i64 x.f0], [.int .i64 x.f1], rfl, rfl, rfl⟩
def rd_T236 (xs : List S236) (i : Int) : S236 := xs.getD i.toNat z236
theorem at_T236 {w : World} {A : Option Addr} {n : Nat} {xs : List S236} (h : Kd.C k236 w A n xs) (i : Int) (h0 : 0 ≤ i) (h1 : i < n) : ∃ ad , A = some ad ∧ w.cell? (ad.add (i.toNat * 2)) = some (.int .i64 (rd_T236 xs i).f0) ∧ w.cell? ⟨(ad.add (i.toNat * 2)).block, (ad.add (i.toNat * 2)).off + 1, none⟩ = some (.int .i64 (rd_T236 xs i).f1) := by
 obtain ⟨ad, c, e, _, hK, hc0⟩ := Kd.C_get h z236 i h0 h1
 have hc : ∀ j u, c[j]? = some u → w.cell? (ad.add (i.toNat * 2 + j)) = some u := hc0
 obtain rfl := k236_open hK
 exact ⟨ad, e, hc 0 _ rfl, by rw [← add_field _ _ 1 (by omega)]; exact hc 1 _ rfl⟩

def rd_L11 (xs : List (List S236)) (i : Int) : (List S236) := xs.getD i.toNat ([] : List S236)
theorem at_L11 {w : World} {A : Option Addr} {n : Nat} {xs : List (List S236)} (h : Kd.C (Kd.slice 236 k236) w A n xs) (i : Int) (h0 : 0 ≤ i) (h1 : i < n) : ∃ ad A0 c0, A = some ad ∧ w.cell? (ad.add i.toNat) = some (.slice A0 (rd_L11 xs i).length c0) ∧ (rd_L11 xs i).length ≤ c0 ∧ k236.C w A0 (rd_L11 xs i).length (rd_L11 xs i) := by
 obtain ⟨ad, c, e, _, hK, hc0⟩ := Kd.C_get h ([] : List S236) i h0 h1
 have hc : ∀ j u, c[j]? = some u → w.cell? (ad.add (i.toNat * 1 + j)) = some u := hc0
 obtain ⟨A0, c0, rfl, l0, g0⟩ := hK
 exact ⟨ad, A0, c0, e, by have hq := hc 0 _ rfl; rwa [Nat.mul_one, Nat.add_zero] at hq, l0, g0⟩

/-! #### struct type 175 -/
structure S175 where
 f0 : Bool
 f1 : (List Int)
 f2 : (List S236)
def z175 : S175 := ⟨false, ([] : List Int), ([] : List S236)⟩
def k175 : Kd S175 := Kd.iso (Kd.pair Kd.bool (Kd.pair (Kd.slice 3 (Kd.int .i64)) (Kd.slice 236 k236))) (fun x : S175 => (x.f0, x.f1, x.f2))
theorem k175_open {w : World} {x : S175} {cs : List Value} (h : k175.K w x cs) : ∃ A1 c1 A2 c2, cs = [.bool x.f0, .slice A1 x.f1.length c1, .slice A2 x.f2.length c2] ∧ x.f1.length ≤ c1 ∧ (Kd.int .i64).C w A1 x.f1.length x.f1 ∧ x.f2.length ≤ c2 ∧ k236.C w A2 x.f2.length x.f2 := by
 obtain ⟨_, _, rfl, rfl, ⟨_, _, rfl, ⟨A1, c1, rfl, l1, g1⟩, ⟨A2, c2, rfl, l2, g2⟩⟩⟩ := h
 exact ⟨A1, c1, A2, c2, rfl, l1, g1, l2, g2⟩
theorem k175_openM {w : World} {base : Nat} {ok : Nat → Prop} {x : S175} {cs : List Value} (h : k175.M w base ok x cs) : ∃ v1 v2, cs = [.bool x.f0, v1, v2] ∧ (Kd.int .i64).R 3 w base ok v1 x.f1 ∧ k236.R 236 w base ok v2 x.f2 := by
 obtain ⟨_, _, rfl, rfl, ⟨_, _, rfl, ⟨v1, rfl, g1⟩, ⟨v2, rfl, g2⟩⟩⟩ := h
 exact ⟨v1, v2, rfl, g1, g2⟩
theorem k175_mk (w : World) (x : S175) {A1 : Option Addr} {c1 : Nat} (l1 : x.f1.length ≤ c1) (g1 : (Kd.int .i64).C w A1 x.f1.length x.f1) {A2 : Option Addr} {c2 : Nat} (l2 : x.f2.length ≤ c2) (g2 : k236.C w A2 x.f2.length x.f2) : k175.K w x [.bool x.f0, .slice A1 x.f1.length c1, .slice A2 x.f2.length c2] := ⟨[.bool x.f0], [.slice A1 x.f1.length c1, .slice A2 x.f2.length c2], rfl, rfl, ⟨[.slice A1 x.f1.length c1], [.slice A2 x.f2.length c2], rfl, ⟨A1, c1, rfl, l1, g1⟩, ⟨A2, c2, rfl, l2, g2⟩⟩⟩
theorem k175_mkM (w : World) (base : Nat) (ok : Nat → Prop) (x : S175) {v1 : Value} (g1 : (Kd.int .i64).R 3 w base ok v1 x.f1) {v2 : Value} (g2 : k236.R 236 w base ok v2 x.f2) : k175.M w base ok x [.bool x.f0, v1, v2] := ⟨[.bool x.f0], [v1, v2], rfl, rfl, ⟨[v1], [v2], rfl, ⟨v1, rfl, g1⟩, ⟨v2, rfl, g2⟩⟩⟩
def rd_T175 (xs : List S175) (i : Int) : S175 := xs.getD i.toNat z175
theorem at_T175 {w : World} {A : Option Addr} {n : Nat} {xs : List S175} (h : Kd.C k175 w A n xs) (i : Int) (h0 : 0 ≤ i) (h1 : i < n) : ∃ ad A1 c1 A2 c2, A = some ad ∧ w.cell? (ad.add (i.toNat * 3)) = some (.bool (rd_T175 xs i).f0) ∧ w.cell? ⟨(ad.add (i.toNat * 3)).block, (ad.add (i.toNat * 3)).off + 1, none⟩ = some (.slice A1 (rd_T175 xs i).f1.length c1) ∧ w.cell? ⟨(ad.add (i.toNat * 3)).block, (ad.add (i.toNat * 3)).off + 2, none⟩ = some (.slice A2 (rd_T175 xs i).f2.length c2) ∧ (rd_T175 xs i).f1.length ≤ c1 ∧ (Kd.int .i64).C w A1 (rd_T175 xs i).f1.length (rd_T175 xs i).f1 ∧ (rd_T175 xs i).f2.length ≤ c2 ∧ k236.C w A2 (rd_T175 xs i).f2.length (rd_T175 xs i).f2 := by
 obtain ⟨ad, c, e, _, hK, hc0⟩ := Kd.C_get h z175 i h0 h1
 have hc : ∀ j u, c[j]? = some u → w.cell? (ad.add (i.toNat * 3 + j)) = some u := hc0
 obtain ⟨A1, c1, A2, c2, rfl, l1, g1, l2, g2⟩ := k175_open hK
 exact ⟨ad, A1, c1, A2, c2, e, hc 0 _ rfl, by rw [← add_field _ _ 1 (by omega)]; exact hc 1 _ rfl, by rw [← add_field _ _ 2 (by omega)]; exact hc 2 _ rfl, l1, g1, l2, g2⟩

def rd_L13 (xs : List (List Int)) (i : Int) : (List Int) := xs.getD i.toNat ([] : List Int)
theorem at_L13 {w : World} {A : Option Addr} {n : Nat} {xs : List (List Int)} (h : Kd.C (Kd.slice 5 (Kd.int .u8)) w A n xs) (i : Int) (h0 : 0 ≤ i) (h1 : i < n) : ∃ ad A0 c0, A = some ad ∧ w.cell? (ad.add i.toNat) = some (.slice A0 (rd_L13 xs i).length c0) ∧ (rd_L13 xs i).length ≤ c0 ∧ (Kd.int .u8).C w A0 (rd_L13 xs i).length (rd_L13 xs i) := by
 obtain ⟨ad, c, e, _, hK, hc0⟩ := Kd.C_get h ([] : List Int) i h0 h1
 have hc : ∀ j u, c[j]? = some u → w.cell? (ad.add (i.toNat * 1 + j)) = some u := hc0
 obtain ⟨A0, c0, rfl, l0, g0⟩ := hK
 exact ⟨ad, A0, c0, e, by have hq := hc 0 _ rfl; rwa [Nat.mul_one, Nat.add_zero] at hq, l0, g0⟩

/-! #### struct type 50 -/
structure S50 where
 f0 : Int
 f1 : (List Int)
def z50 : S50 := ⟨(0 : Int), ([] : List Int)⟩
def k50 : Kd S50 := Kd.iso (Kd.pair (Kd.int .i64) (Kd.slice 5 (Kd.int .u8))) (fun x : S50 => (x.f0, x.f1))
theorem k50_open {w : World} {x : S50} {cs : List Value} (h : k50.K w x cs) : ∃ A1 c1, cs = [.int .i64 x.f0, .slice A1 x.f1.length c1] ∧ x.f1.length ≤ c1 ∧ (Kd.int .u8).C w A1 x.f1.length x.f1 := by
 obtain ⟨_, _, rfl, rfl, ⟨A1, c1, rfl, l1, g1⟩⟩ := h
 exact ⟨A1, c1, rfl, l1, g1⟩
theorem k50_openM {w : World} {base : Nat} {ok : Nat → Prop} {x : S50} {cs : List Value} (h : k50.M w base ok x cs) : ∃ v1, cs = [.int .i64 x.f0, v1] ∧ (Kd.int .u8).R 5 w base ok v1 x.f1 := by
 obtain ⟨_, _, rfl, rfl, ⟨v1, rfl, g1⟩⟩ := h
 exact ⟨v1, rfl, g1⟩
theorem k50_mk (w : World) (x : S50) {A1 : Option Addr} {c1 : Nat} (l1 : x.f1.length ≤ c1) (g1 : (Kd.int .u8).C w A1 x.f1.length x.f1) : k50.K w x [.int .i64 x.f0, .slice A1 x.f1.length c1] := ⟨[.int .i64 x.f0], [.slice A1 x.f1.length c1], rfl, rfl, ⟨A1, c1, rfl, l1, g1⟩⟩
theorem k50_mkM (w : World) (base : Nat) (ok : Nat → Prop) (x : S50) {v1 : Value} (g1 : (Kd.int .u8).R 5 w base ok v1 x.f1) : k50.M w base ok x [.int .i64 x.f0, v1] := ⟨[.int .i64 x.f0], [v1], rfl, rfl, ⟨v1, rfl, g1⟩⟩
def rd_T50 (xs : List S50) (i : Int) : S50 := xs.getD i.toNat z50
theorem at_T50 {w : World} {A : Option Addr} {n : Nat} {xs : List S50} (h : Kd.C k50 w A n xs) (i : Int) (h0 : 0 ≤ i) (h1 : i < n) : ∃ ad A1 c1, A = some ad ∧ w.cell? (ad.add (i.toNat * 2)) = some (.int .i64 (rd_T50 xs i).f0) ∧ w.cell? ⟨(ad.add (i.toNat * 2)).block, (ad.add (i.toNat * 2)).off + 1, none⟩ = some (.slice A1 (rd_T50 xs i).f1.length c1) ∧ (rd_T50 xs i).f1.length ≤ c1 ∧ (Kd.int .u8).C w A1 (rd_T50 xs i).f1.length (rd_T50 xs i).f1 := by
 obtain ⟨ad, c, e, _, hK, hc0⟩ := Kd.C_get h z50 i h0 h1
 have hc : ∀ j u, c[j]? = some u → w.cell? (ad.add (i.toNat * 2 + j)) = some u := hc0
 obtain ⟨A1, c1, rfl, l1, g1⟩ := k50_open hK
 exact ⟨ad, A1, c1, e, hc 0 _ rfl, by rw [← add_field _ _ 1 (by omega)]; exact hc 1 _ rfl, l1, g1⟩

end Go.Proofs.YtpoehkacfmljcaaGreatDoor.M
namespace Go.Proofs.YtpoehkacfmljcaaGreatDoor.Opens
open Go.ChangeShapes Go.WideShapes Go.ChangeAt Go.RowKit Go.Joins Go.Proofs.YtpoehkacfmljcaaGreatDoor.M Go.Proofs.YtpoehkacfmljcaaGreatDoor.H Go.Proofs.YtpoehkacfmljcaaGreatDoorW.PrintWords
set_option linter.unusedVariables false
theorem own : ownKnob Tryz.prog.godebug = none := by kernel_rfl
theorem laidOut : laidOutB Tryz.prog = true := by kernel_rfl
section
variable {H : Type} {enc : TypeId × Value → H} {W : World} {base b0 : Nat} {sp : Nat → Bool} {held : Bool}
def Wt (t : TypeId) (d : DataW H) : Prop := ∀ n ∈ d.weights Tryz.prog t, n ≤ reachBytes
theorem all_mem {P : Program} {e : TypeId} : ∀ {ds : List (DataW H)} {d : DataW H}, d ∈ ds → ∀ n ∈ d.weights P e, n ∈ DataW.weightsAll P e ds
 | x :: r, d, hd, n, hn => by
  simp only [DataW.weightsAll, List.mem_append]
  rcases List.mem_cons.1 hd with rfl | h
  ·exact Or.inl hn
  ·exact Or.inr (all_mem h n hn)
theorem wt_slice {T E : TypeId} (hT : Tryz.prog.underlying T = some (.slice E)) {es rest : List (DataW H)} (h : Wt T (.slice es rest)) : (es.length + rest.length) * Tryz.prog.bytesOf E ≤ reachBytes ∧ ∀ d ∈ es, Wt E d :=
 ⟨h _ (by simp [DataW.weights, hT]), fun d hd n hn => h n (by simp only [DataW.weights, hT, List.mem_cons, List.mem_append]; exact Or.inr (Or.inl (all_mem hd n hn)))⟩
theorem wt_agg {t : TypeId} {fs : Array Field} (ht : Tryz.prog.underlying t = some (.struct fs)) {parts : List (DataW H)} (h : Wt t (.agg parts)) {j : Nat} {u : TypeId} {d : DataW H} (hu : (fs.toList.map (·.type))[j]? = some u) (hd : parts[j]? = some d) : Wt u d :=
 fun n hn => h n (by simp only [DataW.weights, ht]; exact DataW.weights_mem_each hu hd n hn)
theorem rows_open {α : Type} (d : Kd α) (z : α) (Q : α → Prop) {T E : TypeId} (hT : Tryz.prog.underlying T = some (.slice E)) (hc : Tryz.prog.cellsOf E = d.sz)
  (each : ∀ {fuel : Nat} {cs : List Value} {x : DataW H × List MemPlace}, DataW.trod enc Tryz.prog W base sp held fuel E cs = some x → ∃ p, d.K W p cs ∧ (Wt E x.1 → Q p))
  {fuel : Nat} {cs : List Value} {x : DataW H × List MemPlace} (h : DataW.trod enc Tryz.prog W base sp held fuel T cs = some x) :
  ∃ (A : Option Addr) (cap : Nat) (l : List α), cs = [.slice A l.length cap] ∧ l.length ≤ cap ∧ Kd.C d W A l.length l ∧ (Wt T x.1 → l.length * Tryz.prog.bytesOf E ≤ reachBytes ∧ ∀ p ∈ l, Q p) := by
 rcases DataW.trod_slice hT h with ⟨rfl, rfl⟩ | ⟨a, len, cap, elems, rest, n, _, rfl, rfl, hb, hl, hm, hlen, hel, _, _⟩
 ·exact ⟨none, 0, [], rfl, Nat.le_refl _, Kd.C_nil _ _, fun _ => ⟨by simp, by simp⟩⟩
 ·rw [hc] at hel
  have each' : ∀ i, i < len → ∃ p : α, ∃ cs', cs'.length = d.sz ∧ d.K W p cs' ∧ (∀ j u, cs'[j]? = some u → W.cell? (a.add (i * d.sz + j)) = some u) ∧ ∃ y, elems[i]? = some y ∧ (Wt E y.1 → Q p) := by
   intro i hi
   have e := hel i hi
   obtain ⟨y, hy⟩ : ∃ y, elems[i]? = some y := ⟨_, List.getElem?_eq_getElem (by omega)⟩
   rw [hy, Option.bind_eq_some_iff] at e
   obtain ⟨cs', hcs, hd⟩ := e
   obtain ⟨p, hk, hq⟩ := each hd
   obtain ⟨_, _, hcc⟩ := World.cells?_some hcs
   refine ⟨p, cs', d.K_len hk, hk, fun j u hj => ?_, y, hy, hq⟩
   have hjl : j < d.sz := by have := (List.getElem?_eq_some_iff.1 hj).1; rw [d.K_len hk] at this; exact this
   have := hcc j hjl
   rw [hj] at this
   rw [← this, Addr.add_add]
  have pick : ∃ f : Nat → α, ∀ i, i < len → ∃ cs', cs'.length = d.sz ∧ d.K W (f i) cs' ∧ (∀ j u, cs'[j]? = some u → W.cell? (a.add (i * d.sz + j)) = some u) ∧ ∃ y, elems[i]? = some y ∧ (Wt E y.1 → Q (f i)) := by
   refine ⟨fun i => if h : i < len then (each' i h).choose else z, fun i hi => ?_⟩
   simp only [dif_pos hi]
   exact (each' i hi).choose_spec
  obtain ⟨f, hf⟩ := pick
  have hll : ((List.range len).map f).length = len := by simp
  refine ⟨some a, cap, (List.range len).map f, by rw [hll], by rw [hll]; exact hl, ⟨rfl, by rw [hll]; unfold maxLen at hm; omega, fun _ => ⟨a, rfl, fun j p hp => ?_⟩⟩, fun hw => ?_⟩
  ·have hj : j < len := by have := (List.getElem?_eq_some_iff.1 hp).1; rw [hll] at this; exact this
   obtain rfl : p = f j := by
    rw [List.getElem?_map, List.getElem?_range hj] at hp
    exact (Option.some.inj hp).symm
   obtain ⟨cs', h1, h2, h3, _⟩ := hf j hj
   exact ⟨cs', h1, h2, fun i u hu => h3 i u hu⟩
  ·obtain ⟨hw1, hw2⟩ := wt_slice hT hw
   refine ⟨?_, fun p hp => ?_⟩
   ·rw [hll]
    exact Nat.le_trans (Nat.mul_le_mul_right _ (by simp; omega)) hw1
   ·obtain ⟨i, hi, rfl⟩ := List.mem_map.1 hp
    obtain ⟨_, _, _, _, y, hy, hq⟩ := hf i (List.mem_range.1 hi)
    exact hq (hw2 _ (List.mem_map.2 ⟨y, List.mem_of_getElem? hy, rfl⟩))
theorem cells_int : Tryz.prog.cellsOf 3 = 1 := by kernel_rfl
theorem cells_fault : Tryz.prog.cellsOf 28 = 1 := by kernel_rfl
theorem cells_bool : Tryz.prog.cellsOf 4 = 1 := by kernel_rfl
theorem cells_str : Tryz.prog.cellsOf 9 = 1 := by kernel_rfl
theorem cells_strs : Tryz.prog.cellsOf 22 = 1 := by kernel_rfl
theorem cells_ints : Tryz.prog.cellsOf 23 = 1 := by kernel_rfl
theorem cells_segs : Tryz.prog.cellsOf 24 = 1 := by kernel_rfl
theorem cells_inss : Tryz.prog.cellsOf 52 = 1 := by kernel_rfl
theorem cells_row : Tryz.prog.cellsOf 39 = 1 := by kernel_rfl
theorem cells_rows : Tryz.prog.cellsOf 27 = 1 := by kernel_rfl
theorem cells_ins : Tryz.prog.cellsOf 113 = 3 := by kernel_rfl
theorem cells_seg : Tryz.prog.cellsOf 54 = 2 := by kernel_rfl
theorem cells_cell : Tryz.prog.cellsOf 45 = 2 := by kernel_rfl
theorem cells_prog : Tryz.prog.cellsOf 26 = 8 := by kernel_rfl
theorem cells_state : Tryz.prog.cellsOf 30 = 6 := by kernel_rfl
theorem bytes_int : Tryz.prog.bytesOf 3 = 8 := by kernel_rfl
theorem bytes_str : Tryz.prog.bytesOf 9 = 16 := by kernel_rfl
theorem bytes_ins : Tryz.prog.bytesOf 113 = 24 := by kernel_rfl
theorem bytes_seg : Tryz.prog.bytesOf 54 = 32 := by kernel_rfl
theorem bytes_cell : Tryz.prog.bytesOf 45 = 16 := by kernel_rfl
theorem bytes_row : Tryz.prog.bytesOf 39 = 24 := by kernel_rfl
theorem wf_rng {n : Int} (h : (Lit.int .i64 n).wf = true) : -9223372036854775808 ≤ n ∧ n < 9223372036854775808 := by
 simp only [Lit.wf, Bool.and_eq_true, decide_eq_true_eq] at h
 have h1 : IntKind.i64.min = -9223372036854775808 := by decide
 have h2 : IntKind.i64.max = 9223372036854775807 := by decide
 rw [h1, h2] at h
 omega
theorem each_int {fuel : Nat} {cs : List Value} {x : DataW H × List MemPlace} (h : DataW.trod enc Tryz.prog W base sp held fuel 3 cs = some x) : ∃ p, (Kd.int .i64).K W p cs ∧ (Wt 3 x.1 → -9223372036854775808 ≤ p ∧ p < 9223372036854775808) := by
 obtain ⟨a, e, _, hw⟩ := DataW.trod_int Tryz.underlying3 h
 exact ⟨a, e, fun _ => wf_rng hw⟩
theorem each_str {fuel : Nat} {cs : List Value} {x : DataW H × List MemPlace} (h : DataW.trod enc Tryz.prog W base sp held fuel 9 cs = some x) : ∃ p, Kd.string.K W p cs ∧ (Wt 9 x.1 → p.size ≤ reachBytes) := by
 obtain ⟨s, e, rfl, _⟩ := DataW.trod_string Tryz.underlying9 h
 exact ⟨s, e, fun hw => hw _ (by simp [DataW.weights])⟩
theorem each_ins {fuel : Nat} {cs : List Value} {x : DataW H × List MemPlace} (h : DataW.trod enc Tryz.prog W base sp held fuel 113 cs = some x) : ∃ p, k113.K W p cs ∧ (Wt 113 x.1 → True) := by
 obtain ⟨y0, y1, y2, n, _, hl, h0, h1, h2⟩ := Go.Deep.trod_struct3 Tryz.underlying113 h
 rw [cells_ins] at hl
 match cs, hl with
 | [c0, c1, c2], _ =>
  simp only [cells_int] at h0 h1 h2
  obtain ⟨a, e0, _, _⟩ := DataW.trod_int Tryz.underlying3 h0
  obtain ⟨b, e1, _, _⟩ := DataW.trod_int Tryz.underlying3 h1
  obtain ⟨c, e2, _, _⟩ := DataW.trod_int Tryz.underlying3 h2
  simp at e0 e1 e2
  subst e0 e1 e2
  exact ⟨⟨a, b, c⟩, k113_mk W ⟨a, b, c⟩, fun _ => trivial⟩
theorem each_cell {fuel : Nat} {cs : List Value} {x : DataW H × List MemPlace} (h : DataW.trod enc Tryz.prog W base sp held fuel 45 cs = some x) : ∃ p, k45.K W p cs ∧ (Wt 45 x.1 → -9223372036854775808 ≤ p.f1 ∧ p.f1 < 9223372036854775808) := by
 obtain ⟨y0, y1, n, _, hl, h0, h1⟩ := trod_struct2 Tryz.underlying45 h
 rw [cells_cell] at hl
 match cs, hl with
 | [c0, c1], _ =>
  simp only [cells_int, cells_bool] at h0 h1
  obtain ⟨a, e0, _⟩ := DataW.trod_bool Tryz.underlying4 h0
  obtain ⟨b, e1, _, hw⟩ := DataW.trod_int Tryz.underlying3 h1
  simp at e0 e1
  subst e0 e1
  exact ⟨⟨a, b⟩, k45_mk W ⟨a, b⟩, fun _ => wf_rng hw⟩
theorem each_row {fuel : Nat} {cs : List Value} {x : DataW H × List MemPlace} (h : DataW.trod enc Tryz.prog W base sp held fuel 39 cs = some x) : ∃ p, (Kd.slice 45 k45).K W p cs ∧ (Wt 39 x.1 → p.length * 16 ≤ reachBytes ∧ ∀ c ∈ p, -9223372036854775808 ≤ c.f1 ∧ c.f1 < 9223372036854775808) := by
 obtain ⟨A, c, l, e, hl, hC, hw⟩ := rows_open k45 z45 (fun c => -9223372036854775808 ≤ c.f1 ∧ c.f1 < 9223372036854775808) Tryz.underlying39 cells_cell each_cell h
 exact ⟨l, ⟨A, c, e, hl, hC⟩, fun hh => ⟨by have := (hw hh).1; rwa [bytes_cell] at this, (hw hh).2⟩⟩
theorem each_seg {fuel : Nat} {cs : List Value} {x : DataW H × List MemPlace} (h : DataW.trod enc Tryz.prog W base sp held fuel 54 cs = some x) : ∃ p, k54.K W p cs ∧ (Wt 54 x.1 → p.f1.length * 24 ≤ reachBytes) := by
 obtain ⟨y0, y1, n, rfl, hl, h0, h1⟩ := trod_struct2 Tryz.underlying54 h
 rw [cells_seg] at hl
 match cs, hl with
 | [c0, c1], _ =>
  simp only [cells_int, cells_inss] at h0 h1
  obtain ⟨a, e0, _, _⟩ := DataW.trod_int Tryz.underlying3 h0
  obtain ⟨A, c, l, e1, hl, hC, hw⟩ := rows_open k113 z113 (fun _ => True) Tryz.underlying52 cells_ins each_ins h1
  simp at e0 e1
  subst e0 e1
  exact ⟨⟨a, l⟩, k54_mk W ⟨a, l⟩ hl hC, fun hh => by have := (hw (wt_agg Tryz.underlying54 hh (j := 1) rfl rfl)).1; rwa [bytes_ins] at this⟩
theorem open_program {v : Value} {d : DataW H} {p : List MemPlace} (hv : Value.okWide Tryz.prog W .any b0 26 v) (h : DataW.Trod enc Tryz.prog W 0 sp true 26 v d p) :
  ∃ (A0 : Option Addr) (c0 : Nat) (names : List ByteArray) (A1 : Option Addr) (c1 : Nat) (curs : List ByteArray) (A2 : Option Addr) (c2 : Nat) (pool : List Int) (hor cel slo sta : Int) (A7 : Option Addr) (c7 : Nat) (days : List S54), v = .agg #[.slice A0 names.length c0, .slice A1 curs.length c1, .slice A2 pool.length c2, .int .i64 hor, .int .i64 cel, .int .i64 slo, .int .i64 sta, .slice A7 days.length c7] ∧
   (names.length ≤ c0 ∧ Kd.C Kd.string W A0 names.length names) ∧ (curs.length ≤ c1 ∧ Kd.C Kd.string W A1 curs.length curs) ∧ (pool.length ≤ c2 ∧ Kd.C (Kd.int .i64) W A2 pool.length pool) ∧ (days.length ≤ c7 ∧ Kd.C k54 W A7 days.length days) ∧
   (Wt 26 d → names.length * 16 ≤ reachBytes ∧ curs.length * 16 ≤ reachBytes ∧ pool.length * 8 ≤ reachBytes ∧ days.length * 32 ≤ reachBytes ∧ (∀ s ∈ days, s.f1.length * 24 ≤ reachBytes) ∧ (∀ s ∈ names, s.size ≤ reachBytes) ∧ ∀ x ∈ pool, -9223372036854775808 ≤ x ∧ x < 9223372036854775808) := by
 obtain ⟨cs, rfl, hsz⟩ := okWide_struct Tryz.underlying26 hv
 rw [cells_prog] at hsz
 obtain ⟨cs⟩ := cs
 match cs, hsz with
 | [c0, c1, c2, c3, c4, c5, c6, c7], _ =>
  obtain ⟨fuel, hf⟩ := h
  obtain ⟨xs, n, _, hx, _, hlen, hfs⟩ := DataW.trod_struct Tryz.underlying26 hf
  have f0 := hfs 0 _ rfl
  have f1 := hfs 1 _ rfl
  have f2 := hfs 2 _ rfl
  have f3 := hfs 3 _ rfl
  have f4 := hfs 4 _ rfl
  have f5 := hfs 5 _ rfl
  have f6 := hfs 6 _ rfl
  have f7 := hfs 7 _ rfl
  match xs, hlen with
  | [y0, y1, y2, y3, y4, y5, y6, y7], _ =>
   simp only [Value.cells] at f0 f1 f2 f3 f4 f5 f6 f7
   obtain ⟨A0, p0, l0, e0, hl0, hC0, hw0⟩ := rows_open Kd.string ByteArray.empty (fun s => s.size ≤ reachBytes) Tryz.underlying22 cells_str each_str f0
   obtain ⟨A1, p1, l1, e1, hl1, hC1, hw1⟩ := rows_open Kd.string ByteArray.empty (fun s => s.size ≤ reachBytes) Tryz.underlying22 cells_str each_str f1
   obtain ⟨A2, p2, l2, e2, hl2, hC2, hw2⟩ := rows_open (Kd.int .i64) 0 (fun p => -9223372036854775808 ≤ p ∧ p < 9223372036854775808) Tryz.underlying23 cells_int each_int f2
   obtain ⟨a3, e3, _, _⟩ := DataW.trod_int Tryz.underlying3 f3
   obtain ⟨a4, e4, _, _⟩ := DataW.trod_int Tryz.underlying3 f4
   obtain ⟨a5, e5, _, _⟩ := DataW.trod_int Tryz.underlying3 f5
   obtain ⟨a6, e6, _, _⟩ := DataW.trod_int Tryz.underlying3 f6
   obtain ⟨A7, p7, l7, e7, hl7, hC7, hw7⟩ := rows_open k54 z54 (fun s => s.f1.length * 24 ≤ reachBytes) Tryz.underlying24 cells_seg each_seg f7
   simp [cells_strs, cells_ints, cells_int, cells_segs] at e0 e1 e2 e3 e4 e5 e6 e7
   subst e0 e1 e2 e3 e4 e5 e6 e7
   obtain rfl : d = .agg [y0.1, y1.1, y2.1, y3.1, y4.1, y5.1, y6.1, y7.1] := by have := (Prod.mk.inj hx).1; simpa using this
   refine ⟨A0, p0, l0, A1, p1, l1, A2, p2, l2, a3, a4, a5, a6, A7, p7, l7, rfl, ⟨hl0, hC0⟩, ⟨hl1, hC1⟩, ⟨hl2, hC2⟩, ⟨hl7, hC7⟩, fun hh => ?_⟩
   have w0 := hw0 (wt_agg Tryz.underlying26 hh (j := 0) rfl rfl)
   have w1 := hw1 (wt_agg Tryz.underlying26 hh (j := 1) rfl rfl)
   have w2 := hw2 (wt_agg Tryz.underlying26 hh (j := 2) rfl rfl)
   have w7 := hw7 (wt_agg Tryz.underlying26 hh (j := 7) rfl rfl)
   rw [bytes_str] at w0 w1
   rw [bytes_int] at w2
   rw [bytes_seg] at w7
   exact ⟨w0.1, w1.1, w2.1, w7.1, w7.2, w0.2, w2.2⟩
theorem open_state {v : Value} {d : DataW H} {p : List MemPlace} (hv : Value.okWide Tryz.prog W .any b0 30 v) (h : DataW.Trod enc Tryz.prog W 0 sp true 30 v d p) :
  ∃ (a0 a1 : Int) (B2 : Option Addr) (d2 : Nat) (l2 : List Int) (B3 : Option Addr) (d3 : Nat) (l3 : List (List S45)) (a4 a5 : Int), v = .agg #[.int .i64 a0, .int .i64 a1, .slice B2 l2.length d2, .slice B3 l3.length d3, .int .i64 a4, .int .i64 a5] ∧
   (l2.length ≤ d2 ∧ Kd.C (Kd.int .i64) W B2 l2.length l2) ∧ (l3.length ≤ d3 ∧ Kd.C (Kd.slice 45 k45) W B3 l3.length l3) ∧
   (Wt 30 d → l2.length * 8 ≤ reachBytes ∧ l3.length * 24 ≤ reachBytes ∧ (∀ s ∈ l3, s.length * 16 ≤ reachBytes ∧ ∀ c ∈ s, -9223372036854775808 ≤ c.f1 ∧ c.f1 < 9223372036854775808) ∧ a1 < 9223372036854775808 ∧ ∀ x ∈ l2, -9223372036854775808 ≤ x ∧ x < 9223372036854775808) := by
 obtain ⟨cs, rfl, hsz⟩ := okWide_struct Tryz.underlying30 hv
 rw [cells_state] at hsz
 obtain ⟨cs⟩ := cs
 match cs, hsz with
 | [c0, c1, c2, c3, c4, c5], _ =>
  obtain ⟨fuel, hf⟩ := h
  obtain ⟨xs, n, _, hx, _, hlen, hfs⟩ := DataW.trod_struct Tryz.underlying30 hf
  have f0 := hfs 0 _ rfl
  have f1 := hfs 1 _ rfl
  have f2 := hfs 2 _ rfl
  have f3 := hfs 3 _ rfl
  have f4 := hfs 4 _ rfl
  have f5 := hfs 5 _ rfl
  match xs, hlen with
  | [y0, y1, y2, y3, y4, y5], _ =>
   simp only [Value.cells] at f0 f1 f2 f3 f4 f5
   obtain ⟨a0, e0, _, _⟩ := DataW.trod_int Tryz.underlying3 f0
   obtain ⟨a1, e1, _, ha1⟩ := DataW.trod_int Tryz.underlying3 f1
   obtain ⟨B2, p2, l2, e2, hl2, hC2, hw2⟩ := rows_open (Kd.int .i64) 0 (fun p => -9223372036854775808 ≤ p ∧ p < 9223372036854775808) Tryz.underlying23 cells_int each_int f2
   obtain ⟨B3, p3, l3, e3, hl3, hC3, hw3⟩ := rows_open (Kd.slice 45 k45) [] (fun s => s.length * 16 ≤ reachBytes ∧ ∀ c ∈ s, -9223372036854775808 ≤ c.f1 ∧ c.f1 < 9223372036854775808) Tryz.underlying27 cells_row each_row f3
   obtain ⟨a4, e4, _, _⟩ := DataW.trod_int Tryz.underlying28 f4
   obtain ⟨a5, e5, _, _⟩ := DataW.trod_int Tryz.underlying3 f5
   simp [cells_ints, cells_int, cells_rows, cells_fault] at e0 e1 e2 e3 e4 e5
   subst e0 e1 e2 e3 e4 e5
   obtain rfl : d = .agg [y0.1, y1.1, y2.1, y3.1, y4.1, y5.1] := by have := (Prod.mk.inj hx).1; simpa using this
   refine ⟨a0, a1, B2, p2, l2, B3, p3, l3, a4, a5, rfl, ⟨hl2, hC2⟩, ⟨hl3, hC3⟩, fun hh => ?_⟩
   have w2 := hw2 (wt_agg Tryz.underlying30 hh (j := 2) rfl rfl)
   have w3 := hw3 (wt_agg Tryz.underlying30 hh (j := 3) rfl rfl)
   rw [bytes_int] at w2
   rw [bytes_row] at w3
   exact ⟨w2.1, w3.1, w3.2, (wf_rng ha1).2, w2.2⟩
end
end Go.Proofs.YtpoehkacfmljcaaGreatDoor.Opens
