import Derived.Test.YtmfbdmjgkcijcaaDoorProg
import Derived.Below
import Derived.Deep.Draws
import Derived.Deep.AppendLies
import Derived.Maps.AppendAt
import Derived.OwnWalk
import Derived.Laws.BytesArg
import Derived.Laws.MakeOwn
import Derived.Laws.OwnMore
import Derived.Deep.OwnRows
import Derived.Tactics
import Derived.Lib.ConvBytes
import Derived.Laws.Slices
import Derived.WalkKit
import Derived.KernelRfl
import Derived.RowKit3
import Derived.Deep.LoopGhost
import Derived.Deep.QuietTactic
import Derived.BigQuiet
import Derived.WideLaws
import Derived.Deep.DeepCutAuto
import Derived.Deep.CutBlock
import Derived.Deep.RegionHeld3
import Derived.Laws.Rows
import Derived.Lib.AppendStr
import Derived.ArgAppend
import Derived.Laws.IdiomCopy
import Derived.OrdersHeld
import Derived.Laws.BitsLemmas
import Derived.RowKit
import Derived.Test.YtmfbdmjgkcijcaaDoorZV
/- Words of my own: frames, blocks. -/
namespace Go.Proofs.YtmfbdmjgkcijcaaDoor.H
open Go.RowKit Go.Proofs.YtmfbdmjgkcijcaaDoorW.PrintWords Go.Proofs.YtmfbdmjgkcijcaaDoorW.PrintLast Go.Proofs.YtmfbdmjgkcijcaaDoorW.PrintMore
attribute [local go_sem] max2_int min2_int max_two min_two max_three min_three max_four min_four
set_option linter.unusedVariables false
set_option linter.unusedSimpArgs false

/-- What was there is as it was, but for the blocks of L. -/
structure Fr (w w' : World) (L : List Nat) : Prop where
  os : w'.os = w.os
  tape : w'.tape = w.tape
  output : w'.output = w.output
  size : w.heap.size ≤ w'.heap.size
  block : ∀ k, k < w.heap.size → k ∉ L → w'.heap[k]? = w.heap[k]?
theorem Fr.refl (w : World) (L : List Nat) : Fr w w L := ⟨rfl, rfl, rfl, Nat.le_refl _, fun _ _ _ => rfl⟩
theorem Fr.trans {a b c : World} {L M : List Nat} (h : Fr a b L) (k : Fr b c M) (hM : ∀ i, i ∈ M → i ∈ L ∨ a.heap.size ≤ i) : Fr a c L :=
  ⟨k.os.trans h.os, k.tape.trans h.tape, k.output.trans h.output, Nat.le_trans h.size k.size, fun i hi hn => (k.block i (Nat.lt_of_lt_of_le hi h.size) (fun hm => (hM i hm).elim hn (by omega))).trans (h.block i hi hn)⟩
theorem Fr.alloc {a w : World} {L : List Nat} (h : Fr a w L) (o : Obj) : Fr a (w.alloc o) L :=
  h.trans (M := []) ⟨rfl, rfl, rfl, by simp, fun k hk _ => Below.heap_alloc _ _ _ hk⟩ (by simp)
theorem Fr.drew {a w : World} {L : List Nat} (h : Fr a w L) : Fr a w.drew L := ⟨h.os, h.tape, h.output, h.size, h.block⟩
theorem Fr.drewN {a w : World} {L : List Nat} (h : Fr a w L) (n : Nat) : Fr a (w.drewN n) L := ⟨h.os, h.tape, h.output, h.size, h.block⟩
theorem Fr.setCell {a w : World} {L : List Nat} (h : Fr a w L) (p : Addr) (u : Value) (hp : p.block ∈ L ∨ a.heap.size ≤ p.block) : Fr a (w.setCell p u) L :=
  h.trans (M := [p.block]) ⟨rfl, rfl, rfl, by simp [World.setCell], fun k hk hn => Below.heap_setCell _ _ _ _ (by simpa using hn)⟩ (fun i hi => by obtain rfl := List.mem_singleton.1 hi; exact hp)
theorem Fr.mono {a b : World} {L M : List Nat} (h : Fr a b L) (hM : ∀ i, i ∈ L → i ∈ M) : Fr a b M := ⟨h.os, h.tape, h.output, h.size, fun i hi hn => h.block i hi (fun hm => hn (hM i hm))⟩
theorem Fr.of_below {a b : World} (h : Below a.heap.size a b) (L : List Nat) : Fr a b L := ⟨h.os, h.tape, h.output, h.size, fun i hi _ => h.block i hi⟩
theorem Fr.below {a b : World} (h : Fr a b []) : Below a.heap.size a b := ⟨h.os, h.tape, h.output, h.size, fun i hi => h.block i hi (by simp)⟩
theorem Fr.blk {a b : World} {L : List Nat} (h : Fr a b L) {g : Nat} {o : Obj} (hg : a.heap[g]? = some o) (hn : g ∉ L) : b.heap[g]? = some o := (h.block g (blk_lt hg) hn).trans hg

theorem cell_far {w : World} {b o : Nat} {p : Addr} {u v : Value} (h : w.cell? ⟨b, o, none⟩ = some v) (hb : b ≠ p.block) : (w.setCell p u).cell? ⟨b, o, none⟩ = some v := by
  simp only [World.cell?, Below.heap_setCell w p u b hb] at h ⊢; exact h
theorem blk_newN {w : World} {g : Nat} {o : Obj} (h : g = w.heap.size) : (w.alloc o).heap[g]? = some o := h ▸ heap_alloc_new w o
theorem at_far {w : World} {g : Nat} {o : Obj} (h : w.heap[g]? = some o) {p : Addr} (hp : g ≠ p.block) (u : Value) : (w.setCell p u).heap[g]? = some o := (Below.heap_setCell w p u g hp).trans h
theorem blk_to {W : World} {g : Nat} {t : TypeId} {cs cs' : Array Value} (h : W.heap[g]? = some (.cells cs t (0, 0))) (e : cs = cs') : W.heap[g]? = some (.cells cs' t (0, 0)) := e ▸ h
theorem FQ {w W : World} {L : List Nat} (h : Fr w W L := by (with_reducible (repeat (first | exact Fr.refl _ _ | refine Fr.drew ?_ | refine Fr.drewN ?_ _ | refine Fr.alloc ?_ _ | refine Fr.setCell ?_ _ _ ?_))) <;> first | exact Fr.refl _ _ | simp) : Fr w W L := h
theorem DQ {w W : World} (h : Drawn0 w W := by repeat (first | exact Drawn0.refl _ | apply Drawn0.step)) : Drawn0 w W := h
set_option maxHeartbeats 4000000 in
set_option maxRecDepth 100000 in
theorem height_calls (p : Nat) (A : Option Addr) (n c : Nat) (m : Value) (w : World) (hc : w.cell? ⟨p, 0, none⟩ = some (.slice A n c)) :
    Calls Tryd.prog 46 #[.pointer (some ⟨p, 0, none⟩)] w fun e w' => e = .returned (.int .i64 n) ∧ Drawn0 w w' := by
  go_enter Tryd.func46, Tryd.ntmps46
  go_wp2
  go_ret
  exact ⟨by first | rfl | (simp; done) | (simp [*]; done), by repeat (first | exact Drawn0.refl _ | apply Drawn0.step)⟩

def noteBack (op B c : Int) : Int := if op = 3 then max c B else c
def noteSlots (op A s : Int) : Int := if op = 6 ∨ op = 7 then max s (wrap64 (A + 1)) else s
def noteCell (op A d : Int) : Int := if op = 4 ∨ op = 5 then max d (wrap64 (A + 1)) else d
set_option maxHeartbeats 4000000 in
set_option maxRecDepth 100000 in
theorem note_calls (f : Nat) (a b c s d op A B h : Int) (hv : Value) (w : World) (hf : w.heap[f]? = some (.cells #[.int .i64 a, .int .i64 b, .int .i64 c, hv, .int .i64 s, .int .i64 d] 80 (0, 0))) :
    Calls Tryd.prog 47 #[.pointer (some ⟨f, 0, none⟩), .agg #[.int .i64 op, .int .i64 A, .int .i64 B], .int .i64 h] w fun e w' => e = .returned (.tuple #[]) ∧ Fr w w' [f] ∧
      w'.heap[f]? = some (.cells #[.int .i64 (max a h), .int .i64 (wrap64 (b + 1)), .int .i64 (noteBack op B c), hv, .int .i64 (noteSlots op A s), .int .i64 (noteCell op A d)] 80 (0, 0)) := by
  have hlt := blk_lt hf
  have c0 := blk_cell hf 0
  have c1 := blk_cell hf 1
  have c2 := blk_cell hf 2
  have c4 := blk_cell hf 4
  have c5 := blk_cell hf 5
  have z0 := blk_frozen hf 0
  have z1 := blk_frozen hf 1
  have z2 := blk_frozen hf 2
  have z4 := blk_frozen hf 4
  have z5 := blk_frozen hf 5
  have HF := Aside0.mk hf
  clear hf
  have e3 : op = 3 ∨ (op == 3) = false := by by_cases h : op = 3 <;> simp [h]
  have e6 : op = 6 ∨ (op == 6) = false := by by_cases h : op = 6 <;> simp [h]
  have e7 : op = 7 ∨ (op == 7) = false := by by_cases h : op = 7 <;> simp [h]
  have e4 : op = 4 ∨ (op == 4) = false := by by_cases h : op = 4 <;> simp [h]
  have e5 : op = 5 ∨ (op == 5) = false := by by_cases h : op = 5 <;> simp [h]
  have hop : op = 3 ∨ op = 6 ∨ op = 7 ∨ op = 4 ∨ op = 5 ∨ ((op == 3) = false ∧ (op == 6) = false ∧ (op == 7) = false ∧ (op == 4) = false ∧ (op == 5) = false) := by
    rcases e3 with h | h <;> rcases e6 with h2 | h2 <;> rcases e7 with h3 | h3 <;> rcases e4 with h4 | h4 <;> rcases e5 with h5 | h5 <;> simp [*]
  clear e3 e6 e7 e4 e5
  rcases hop with rfl | rfl | rfl | rfl | rfl | ⟨e3, e6, e7, e4, e5⟩
  all_goals (
    go_enter Tryd.func47, Tryd.ntmps47
    go_wp2 <;> (try go_region) <;> (try go_wp2) <;> go_end0 <;> (
      refine ⟨rfl, (by (with_reducible (repeat (first | refine Fr.drew ?_ | refine Fr.alloc ?_ _ | refine Fr.setCell ?_ _ _ ?_))) <;> first | exact Fr.refl _ _ | simp), blk_to (by (with_reducible (repeat (first | apply blk_drew | apply blk_alloc | apply blk_set))); exact HF.out) ?_⟩; (first | (simp [noteBack, noteSlots, noteCell]; omega) | (simp only [beq_eq_false_iff_ne, ne_eq] at e3 e4 e5 e6 e7; simp [noteBack, noteSlots, noteCell, e3, e4, e5, e6, e7]; omega))))
end Go.Proofs.YtmfbdmjgkcijcaaDoor.H
