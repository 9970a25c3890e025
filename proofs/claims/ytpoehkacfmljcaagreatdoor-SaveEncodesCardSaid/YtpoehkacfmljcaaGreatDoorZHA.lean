/- The laws of maps keyed by int: look-up, store, delete, range, as the model carries them out, over a plain list of entries. -/
import Derived.Test.YtpoehkacfmljcaaGreatDoorProg
import Derived.Below
import Derived.Deep.Draws
import Derived.Deep.AppendLies
import Derived.Maps.AppendAt
import Derived.OwnWalk
import Derived.Laws.BytesArg
import Derived.Laws.MakeOwn
import Derived.Laws.OwnMore
import Derived.Deep.OwnRows
import Derived.Tactics
import Derived.Lib.ConvBytes
import Derived.Laws.Slices
import Derived.WalkKit
import Derived.KernelRfl
import Derived.RowKit3
import Derived.Deep.LoopGhost
import Derived.Deep.QuietTactic
import Derived.BigQuiet
import Derived.WideLaws
import Derived.Deep.DeepCutAuto
import Derived.Deep.CutBlock
import Derived.Deep.RegionHeld3
import Derived.Laws.Rows
import Derived.Lib.AppendStr
import Derived.ArgAppend
import Derived.Laws.IdiomCopy
import Derived.OrdersHeld
import Derived.Laws.BitsLemmas
import Derived.RowKit
import Derived.Test.YtpoehkacfmljcaaGreatDoorZV
import Derived.Maps.RangeWalk
import Derived.Maps.RangeRun
set_option maxHeartbeats 4000000
set_option maxRecDepth 100000
/- Words of my own: frames, blocks. -/
namespace Go.Proofs.YtpoehkacfmljcaaGreatDoor.H
open Go.RowKit Go.Proofs.YtpoehkacfmljcaaGreatDoorW.PrintWords Go.Proofs.YtpoehkacfmljcaaGreatDoorW.PrintLast Go.Proofs.YtpoehkacfmljcaaGreatDoorW.PrintMore
attribute [local go_sem] max2_int min2_int max_two min_two max_three min_three max_four min_four
set_option linter.unusedVariables false
set_option linter.unusedSimpArgs false

structure Fr (w w' : World) (L : List Nat) : Prop where
 os : w'.os = w.os
 tape : w'.tape = w.tape
 output : w'.output = w.output
 size : w.heap.size ≤ w'.heap.size
 block : ∀ k, k < w.heap.size → k ∉ L → w'.heap[k]? = w.heap[k]?
theorem Fr.refl (w : World) (L : List Nat) : Fr w w L := ⟨rfl, rfl, rfl, Nat.le_refl _, fun _ _ _ => rfl⟩
theorem Fr.trans {a b c : World} {L M : List Nat} (h : Fr a b L) (k : Fr b c M) (hM : ∀ i, i ∈ M → i ∈ L ∨ a.heap.size ≤ i) : Fr a c L :=
 ⟨k.os.trans h.os, k.tape.trans h.tape, k.output.trans h.output, Nat.le_trans h.size k.size, fun i hi hn => (k.block i (Nat.lt_of_lt_of_le hi h.size) (fun hm => (hM i hm).elim hn (by omega))).trans (h.block i hi hn)⟩
theorem Fr.alloc {a w : World} {L : List Nat} (h : Fr a w L) (o : Obj) : Fr a (w.alloc o) L :=
 h.trans (M := []) ⟨rfl, rfl, rfl, by simp, fun k hk _ => Below.heap_alloc _ _ _ hk⟩ (by simp)
theorem Fr.drew {a w : World} {L : List Nat} (h : Fr a w L) : Fr a w.drew L := ⟨h.os, h.tape, h.output, h.size, h.block⟩
theorem Fr.drewN {a w : World} {L : List Nat} (h : Fr a w L) (n : Nat) : Fr a (w.drewN n) L := ⟨h.os, h.tape, h.output, h.size, h.block⟩
theorem Fr.setCell {a w : World} {L : List Nat} (h : Fr a w L) (p : Addr) (u : Value) (hp : p.block ∈ L ∨ a.heap.size ≤ p.block) : Fr a (w.setCell p u) L :=
 h.trans (M := [p.block]) ⟨rfl, rfl, rfl, by simp [World.setCell], fun k hk hn => Below.heap_setCell _ _ _ _ (by simpa using hn)⟩ (fun i hi => by obtain rfl := List.mem_singleton.1 hi; exact hp)
theorem Fr.mono {a b : World} {L M : List Nat} (h : Fr a b L) (hM : ∀ i, i ∈ L → i ∈ M) : Fr a b M := ⟨h.os, h.tape, h.output, h.size, fun i hi hn => h.block i hi (fun hm => hn (hM i hm))⟩
theorem Fr.of_below {a b : World} (h : Below a.heap.size a b) (L : List Nat) : Fr a b L := ⟨h.os, h.tape, h.output, h.size, fun i hi _ => h.block i hi⟩
theorem Fr.below {a b : World} (h : Fr a b []) : Below a.heap.size a b := ⟨h.os, h.tape, h.output, h.size, fun i hi => h.block i hi (by simp)⟩
theorem Fr.blk {a b : World} {L : List Nat} (h : Fr a b L) {g : Nat} {o : Obj} (hg : a.heap[g]? = some o) (hn : g ∉ L) : b.heap[g]? = some o := (h.block g (blk_lt hg) hn).trans hg

theorem cell_far {w : World} {b o : Nat} {p : Addr} {u v : Value} (h : w.cell? ⟨b, o, none⟩ = some v) (hb : b ≠ p.block) : (w.setCell p u).cell? ⟨b, o, none⟩ = some v := by
 simp only [World.cell?, Below.heap_setCell w p u b hb] at h ⊢; exact h
theorem blk_newN {w : World} {g : Nat} {o : Obj} (h : g = w.heap.size) : (w.alloc o).heap[g]? = some o := h ▸ heap_alloc_new w o
theorem at_far {w : World} {g : Nat} {o : Obj} (h : w.heap[g]? = some o) {p : Addr} (hp : g ≠ p.block) (u : Value) : (w.setCell p u).heap[g]? = some o := (Below.heap_setCell w p u g hp).trans h
theorem blk_to {W : World} {g : Nat} {t : TypeId} {cs cs' : Array Value} (h : W.heap[g]? = some (.cells cs t (0, 0))) (e : cs = cs') : W.heap[g]? = some (.cells cs' t (0, 0)) := e ▸ h
theorem AsM {p : Prop} (h : p) : Aside0 p := ⟨h⟩
theorem Fr.tr {a b c : World} {L : List Nat} (h : Fr a b L) (k : Fr b c []) : Fr a c L := h.trans k (by simp)
theorem Fr.bl {a b : World} (h : Fr a b []) {g : Nat} {o : Obj} (hg : a.heap[g]? = some o) : b.heap[g]? = some o := h.blk hg (by simp)
theorem FX {a b c : World} {L : List Nat} (h : Fr a b L) (k : Fr b c [] := by (with_reducible (repeat (first | exact Fr.refl _ _ | refine Fr.drew ?_ | refine Fr.drewN ?_ _ | refine Fr.alloc ?_ _ | refine Fr.setCell ?_ _ _ ?_))) <;> first | exact Fr.refl _ _ | simp) : Fr a c L := Fr.trans h k (by simp)
theorem FQ {w W : World} {L : List Nat} (h : Fr w W L := by (with_reducible (repeat (first | exact Fr.refl _ _ | refine Fr.drew ?_ | refine Fr.drewN ?_ _ | refine Fr.alloc ?_ _ | refine Fr.setCell ?_ _ _ ?_))) <;> first | exact Fr.refl _ _ | simp) : Fr w W L := h
theorem DQ {w W : World} (h : Drawn0 w W := by repeat (first | exact Drawn0.refl _ | apply Drawn0.step)) : Drawn0 w W := h
theorem height_calls (p : Nat) (A : Option Addr) (n c : Nat) (m : Value) (w : World) (hc : w.cell? ⟨p, 0, none⟩ = some (.slice A n c)) :
  Calls Tryz.prog 134 #[.pointer (some ⟨p, 0, none⟩)] w fun e w' => e = .returned (.int .i64 n) ∧ Drawn0 w w' := by
 go_enter Tryz.func134, Tryz.ntmps134
 go_wp2
 go_ret
 exact ⟨by first | rfl | (simp; done) | (simp [*]; done), by repeat (first | exact Drawn0.refl _ | apply Drawn0.step)⟩

def noteBack (op B c : Int) : Int := if op = 3 then max c B else c
def noteSlots (op A s : Int) : Int := if op = 6 ∨ op = 7 then max s (wrap64 (A + 1)) else s
def noteCell (op A d : Int) : Int := if op = 4 ∨ op = 5 then max d (wrap64 (A + 1)) else d
theorem note_calls (f : Nat) (a b c s d op A B h : Int) (hv : Value) (w : World) (hf : w.heap[f]? = some (.cells #[.int .i64 a, .int .i64 b, .int .i64 c, hv, .int .i64 s, .int .i64 d] 141 (0, 0))) :
  Calls Tryz.prog 135 #[.pointer (some ⟨f, 0, none⟩), .agg #[.int .i64 op, .int .i64 A, .int .i64 B], .int .i64 h] w fun e w' => e = .returned (.tuple #[]) ∧ Fr w w' [f] ∧
   w'.heap[f]? = some (.cells #[.int .i64 (max a h), .int .i64 (wrap64 (b + 1)), .int .i64 (noteBack op B c), hv, .int .i64 (noteSlots op A s), .int .i64 (noteCell op A d)] 141 (0, 0)) := by
 have hlt := blk_lt hf
 have c0 := blk_cell hf 0
 have c1 := blk_cell hf 1
 have c2 := blk_cell hf 2
 have c4 := blk_cell hf 4
 have c5 := blk_cell hf 5
 have z0 := blk_frozen hf 0
 have z1 := blk_frozen hf 1
 have z2 := blk_frozen hf 2
 have z4 := blk_frozen hf 4
 have z5 := blk_frozen hf 5
 have HF := Aside0.mk hf
 clear hf
 have e3 : op = 3 ∨ (op == 3) = false := by by_cases h : op = 3 <;> simp [h]
 have e6 : op = 6 ∨ (op == 6) = false := by by_cases h : op = 6 <;> simp [h]
 have e7 : op = 7 ∨ (op == 7) = false := by by_cases h : op = 7 <;> simp [h]
 have e4 : op = 4 ∨ (op == 4) = false := by by_cases h : op = 4 <;> simp [h]
 have e5 : op = 5 ∨ (op == 5) = false := by by_cases h : op = 5 <;> simp [h]
 have hop : op = 3 ∨ op = 6 ∨ op = 7 ∨ op = 4 ∨ op = 5 ∨ ((op == 3) = false ∧ (op == 6) = false ∧ (op == 7) = false ∧ (op == 4) = false ∧ (op == 5) = false) := by
  rcases e3 with h | h <;> rcases e6 with h2 | h2 <;> rcases e7 with h3 | h3 <;> rcases e4 with h4 | h4 <;> rcases e5 with h5 | h5 <;> simp [*]
 clear e3 e6 e7 e4 e5
 rcases hop with rfl | rfl | rfl | rfl | rfl | ⟨e3, e6, e7, e4, e5⟩
 all_goals (
  go_enter Tryz.func135, Tryz.ntmps135
  go_wp2 <;> (try go_region) <;> (try go_wp2) <;> go_end0 <;> (
   refine ⟨rfl, (by (with_reducible (repeat (first | refine Fr.drew ?_ | refine Fr.alloc ?_ _ | refine Fr.setCell ?_ _ _ ?_))) <;> first | exact Fr.refl _ _ | simp), blk_to (by (with_reducible (repeat (first | apply blk_drew | apply blk_alloc | apply blk_set))); exact HF.out) ?_⟩; (first | (simp [noteBack, noteSlots, noteCell]; omega) | (simp only [beq_eq_false_iff_ne, ne_eq] at e3 e4 e5 e6 e7; simp [noteBack, noteSlots, noteCell, e3, e4, e5, e6, e7]; omega))))
theorem cc2 {w : World} {g : Nat} {cs : Array Value} {t : TypeId} (h : w.heap[g]? = some (.cells cs t (0, 0))) : w.cell? ⟨g, 0, none⟩ = cs[0]? ∧ w.cell? ⟨g, 1, none⟩ = cs[1]? := ⟨blk_cell h 0, blk_cell h 1⟩
theorem cc3 {w : World} {g : Nat} {cs : Array Value} {t : TypeId} (h : w.heap[g]? = some (.cells cs t (0, 0))) : w.cell? ⟨g, 0, none⟩ = cs[0]? ∧ w.cell? ⟨g, 1, none⟩ = cs[1]? ∧ w.cell? ⟨g, 2, none⟩ = cs[2]? := ⟨blk_cell h 0, blk_cell h 1, blk_cell h 2⟩
theorem cc4 {w : World} {g : Nat} {cs : Array Value} {t : TypeId} (h : w.heap[g]? = some (.cells cs t (0, 0))) : w.cell? ⟨g, 0, none⟩ = cs[0]? ∧ w.cell? ⟨g, 1, none⟩ = cs[1]? ∧ w.cell? ⟨g, 2, none⟩ = cs[2]? ∧ w.cell? ⟨g, 3, none⟩ = cs[3]? := ⟨blk_cell h 0, blk_cell h 1, blk_cell h 2, blk_cell h 3⟩
theorem cc6 {w : World} {g : Nat} {cs : Array Value} {t : TypeId} (h : w.heap[g]? = some (.cells cs t (0, 0))) : w.cell? ⟨g, 0, none⟩ = cs[0]? ∧ w.cell? ⟨g, 1, none⟩ = cs[1]? ∧ w.cell? ⟨g, 2, none⟩ = cs[2]? ∧ w.cell? ⟨g, 3, none⟩ = cs[3]? ∧ w.cell? ⟨g, 4, none⟩ = cs[4]? ∧ w.cell? ⟨g, 5, none⟩ = cs[5]? := ⟨blk_cell h 0, blk_cell h 1, blk_cell h 2, blk_cell h 3, blk_cell h 4, blk_cell h 5⟩
theorem cc8 {w : World} {g : Nat} {cs : Array Value} {t : TypeId} (h : w.heap[g]? = some (.cells cs t (0, 0))) : w.cell? ⟨g, 0, none⟩ = cs[0]? ∧ w.cell? ⟨g, 1, none⟩ = cs[1]? ∧ w.cell? ⟨g, 2, none⟩ = cs[2]? ∧ w.cell? ⟨g, 3, none⟩ = cs[3]? ∧ w.cell? ⟨g, 4, none⟩ = cs[4]? ∧ w.cell? ⟨g, 5, none⟩ = cs[5]? ∧ w.cell? ⟨g, 6, none⟩ = cs[6]? ∧ w.cell? ⟨g, 7, none⟩ = cs[7]? := ⟨blk_cell h 0, blk_cell h 1, blk_cell h 2, blk_cell h 3, blk_cell h 4, blk_cell h 5, blk_cell h 6, blk_cell h 7⟩
theorem cc9 {w : World} {g : Nat} {cs : Array Value} {t : TypeId} (h : w.heap[g]? = some (.cells cs t (0, 0))) : w.cell? ⟨g, 0, none⟩ = cs[0]? ∧ w.cell? ⟨g, 1, none⟩ = cs[1]? ∧ w.cell? ⟨g, 2, none⟩ = cs[2]? ∧ w.cell? ⟨g, 3, none⟩ = cs[3]? ∧ w.cell? ⟨g, 4, none⟩ = cs[4]? ∧ w.cell? ⟨g, 5, none⟩ = cs[5]? ∧ w.cell? ⟨g, 6, none⟩ = cs[6]? ∧ w.cell? ⟨g, 7, none⟩ = cs[7]? ∧ w.cell? ⟨g, 8, none⟩ = cs[8]? := ⟨blk_cell h 0, blk_cell h 1, blk_cell h 2, blk_cell h 3, blk_cell h 4, blk_cell h 5, blk_cell h 6, blk_cell h 7, blk_cell h 8⟩
end Go.Proofs.YtpoehkacfmljcaaGreatDoor.H
namespace Go.Proofs.YtpoehkacfmljcaaGreatDoor.H
open Go.RowKit Go.Proofs.YtpoehkacfmljcaaGreatDoorW.PrintWords
open Go.ChangeMaps (setBlock)
open Go.MapKept
set_option linter.unusedVariables false
set_option linter.unusedSimpArgs false

section
variable {β : Type}
abbrev Es (β : Type) := List (Int × β × Nat)
def mkE (enc : β → Value) (e : Int × β × Nat) : MapEntry := { key := .int .i64 e.1, val := enc e.2.1, born := e.2.2 }
def obj (enc : β → Value) (es : Es β) (clk : Nat) : Obj := .map (es.map (mkE enc)).toArray clk
def idx : Es β → Int → Option Nat
 | [], _ => none
 | e :: es, k => if k = e.1 then some 0 else (idx es k).map (· + 1)
def look : Es β → Int → Option β
 | [], _ => none
 | e :: es, k => if k = e.1 then some e.2.1 else look es k
def put (es : Es β) (k : Int) (v : β) (clk : Nat) : Es β := match idx es k with
 | some j => es.modify j (fun e => (k, v, e.2.2))
 | none => es ++ [(k, v, clk)]
def putClk (es : Es β) (k : Int) (clk : Nat) : Nat := if (idx es k).isSome then clk else clk + 1
def del (es : Es β) (k : Int) : Es β := match idx es k with
 | some j => es.eraseIdx j
 | none => es

theorem look_none {es : Es β} {k : Int} : idx es k = none ↔ look es k = none := by
 induction es with
 | nil => simp [idx, look]
 | cons e es ih =>
  by_cases h : k = e.1
  ·simp [idx, look, h]
  ·simp [idx, look, h, ih]
theorem look_some {es : Es β} {k : Int} {j : Nat} (h : idx es k = some j) : ∃ e, es[j]? = some e ∧ e.1 = k ∧ look es k = some e.2.1 := by
 induction es generalizing j with
 | nil => simp [idx] at h
 | cons e es ih =>
  by_cases hk : k = e.1
  ·simp [idx, hk] at h
   subst h
   exact ⟨e, rfl, hk.symm, by simp [look, hk]⟩
  ·simp only [idx, if_neg hk, Option.map_eq_some_iff] at h
   obtain ⟨i, hi, rfl⟩ := h
   obtain ⟨e', h1, h2, h3⟩ := ih hi
   exact ⟨e', by simpa using h1, h2, by simp [look, hk, h3]⟩
theorem findNow_ints (enc : β → Value) (k : Int) : ∀ (es : Es β) (i : Nat), Instr.findNow (.int .i64) (.int .i64 k) (es.map (mkE enc)) i = some (match idx es k, look es k with | some j, some v => some (i + j, enc v) | _, _ => none)
 | [], i => by simp [Instr.findNow, idx]
 | e :: es, i => by
  by_cases h : k = e.1
  ·simp [Instr.findNow, Instr.sameNow, mkE, idx, look, h]
  ·have hb : (k == e.1) = false := beq_eq_false_iff_ne.2 h
   have hs : Instr.sameNow (.int .i64) (.int .i64 k) (mkE enc e).key = some false := by simp [Instr.sameNow, mkE, hb]
   simp only [List.map_cons, Instr.findNow, hs, idx, look, if_neg h]
   rw [findNow_ints enc k es (i + 1)]
   cases h1 : idx es k with
   | none => simp
   | some j =>
    obtain ⟨e', _, _, h3⟩ := look_some h1
    simp [h3]; omega
end

section
variable {β : Type} {P : Program} {enc : β → Value} {w : World} {r t e : Nat} {es : Es β} {clk : Nat} {k : Int}
theorem find_here (es : Es β) (k : Int) : (match idx es k, look es k with | some j, some v => some (0 + j, enc v) | _, _ => none) = (match idx es k, look es k with | some j, some v => some (j, enc v) | _, _ => none) := by
 cases idx es k <;> cases look es k <;> simp
theorem findKey_int (hk : P.underlying 3 = some (.int .i64)) : (Instr.findKey 3 (.int .i64 k) (es.map (mkE enc))).run P w = .ok (match idx es k, look es k with | some j, some v => some (j, enc v) | _, _ => none) w := by
 rw [run_findKey hk (findNow_ints enc k es 0), find_here]
theorem isKey_int (k : Int) : IsKey (.int .i64) (.int .i64 k) := by simp [IsKey]
theorem mod_list {α γ : Type} (f : α → γ) (g : γ → γ) (h : α → α) : ∀ (l : List α) (j : Nat), (∀ x, l[j]? = some x → g (f x) = f (h x)) → (l.map f).modify j g = (l.modify j h).map f
 | [], _, _ => by simp
 | x :: l, 0, e => by simp [e x rfl]
 | x :: l, j + 1, e => by simpa using mod_list f g h l j (fun y hy => e y (by simpa using hy))
theorem run_look (z : Value) (ht : P.underlying t = some (.map 3 e)) (hk : P.underlying 3 = some (.int .i64)) (hz : (zeroValue e).run P w = .ok z w) (hb : w.heap[r]? = some (obj enc es clk)) :
  (Instr.lookup t (.map (some r)) (.int .i64 k) true).run P w = .ok (.tuple #[match look es k with | some v => enc v | none => z, .bool (look es k).isSome]) w := by
 have hb' : w.heap[r]? = some (.map (es.map (mkE enc)).toArray clk) := hb
 simp only [Instr.lookup, Sem.run_bind, run_underlying ht, Go.MapKept.run_getObj_map hb', Sem.run_pure, Go.MapKept.run_checkKey hk (isKey_int k), List.toList_toArray, findKey_int hk, Result.andThen]
 cases h3 : idx es k with
 | none =>
  have := look_none.1 h3
  simp [this, Result.andThen, hz]
 | some j =>
  obtain ⟨e', _, _, h4⟩ := look_some h3
  simp [h4, Result.andThen]
theorem run_put (v : β) (ht : P.underlying t = some (.map 3 e)) (hk : P.underlying 3 = some (.int .i64)) (hb : w.heap[r]? = some (obj enc es clk)) :
  (Instr.mapUpdate t (.map (some r)) (.int .i64 k) (enc v)).run P w = .ok () (setBlock w r (obj enc (put es k v clk) (putClk es k clk))) := by
 have hb' : w.heap[r]? = some (.map (es.map (mkE enc)).toArray clk) := hb
 simp only [Instr.mapUpdate, Sem.run_bind, run_underlying ht, Go.MapKept.run_getObj_map hb', Sem.run_pure, Go.MapKept.run_checkKey hk (isKey_int k), List.toList_toArray, findKey_int hk, Result.andThen]
 cases h3 : idx es k with
 | none =>
  have := look_none.1 h3
  simp [this, Go.MapKept.run_setObj_map _ hb', setBlock, obj, put, putClk, h3, mkE]
 | some j =>
  obtain ⟨e', h5, h6, h4⟩ := look_some h3
  have h7 : (es.map (mkE enc)).toArray[j]? = some (mkE enc e') := by simp [h5]
  have h8 : (mkE enc e').key = .int .i64 k := by simp [mkE, h6]
  simp only [h4, h7, Option.map_some, Option.getD_some, h8, Go.MapKept.run_keyThatStays (isKey_int k), Sem.run_bind, Result.andThen, Go.MapKept.run_setObj_map _ hb', setBlock, obj, put, putClk, h3, Option.isSome_some, if_true]
  have : (es.map (mkE enc)).toArray.modify j (fun e => { e with key := .int .i64 k, val := enc v }) = ((es.modify j fun e => (k, v, e.2.2)).map (mkE enc)).toArray := by
   rw [List.modify_toArray, mod_list (mkE enc) _ (fun e => (k, v, e.2.2))]
   intro x _
   rfl
  rw [this]
theorem run_del (ht : P.underlying t = some (.map 3 e)) (hk : P.underlying 3 = some (.int .i64)) (hb : w.heap[r]? = some (obj enc es clk)) (ty : TypeId) :
  (Builtin.delete_ #[t, 3] ty #[.map (some r), .int .i64 k]).run P w = .ok (.tuple #[]) (setBlock w r (obj enc (del es k) clk)) := by
 have hb' : w.heap[r]? = some (.map (es.map (mkE enc)).toArray clk) := hb
 simp only [Builtin.delete_, Sem.run_bind, run_underlying ht, Go.MapKept.run_getObj_map hb', Sem.run_pure, Go.MapKept.run_checkKey hk (isKey_int k), List.toList_toArray, findKey_int hk, Result.andThen, List.getElem?_toArray, List.getElem?_cons_zero, List.getElem?_cons_succ]
 cases h3 : idx es k with
 | none =>
  have := look_none.1 h3
  simp [this, Go.MapKept.run_setObj_map _ hb', setBlock, obj, del, h3, Result.andThen]
 | some j =>
  obtain ⟨e', h5, h6, h4⟩ := look_some h3
  have hj : j < es.length := (List.getElem?_eq_some_iff.1 h5).1
  have : (es.map (mkE enc)).toArray.eraseIdxIfInBounds j = ((es.eraseIdx j).map (mkE enc)).toArray := by
   simp [Array.eraseIdxIfInBounds, hj, List.eraseIdx_toArray]
   exact (Go.ChangeMaps.map_eraseIdx (mkE enc) es j).symm
  simp [h4, Go.MapKept.run_setObj_map _ hb', setBlock, obj, del, h3, Result.andThen, this]
end
section
variable {β : Type}
structure Good (es : Es β) (clk : Nat) : Prop where
 keys : (es.map (·.1)).Nodup
 born : (es.map (·.2.2)).Nodup
 lt : ∀ e ∈ es, e.2.2 < clk
theorem Good.nil : Good ([] : Es β) 0 := ⟨by simp, by simp, by simp⟩
theorem put_nil (k : Int) (v : β) (c : Nat) : put [] k v c = [(k, v, c)] := rfl
theorem put_cons (e : Int × β × Nat) (es : Es β) (k : Int) (v : β) (c : Nat) : put (e :: es) k v c = if k = e.1 then (k, v, e.2.2) :: es else e :: put es k v c := by
 by_cases h : k = e.1
 ·simp [put, idx, h]
 ·simp only [put, idx, if_neg h]
  cases idx es k <;> simp
theorem look_put (es : Es β) (k : Int) (v : β) (c : Nat) (q : Int) : look (put es k v c) q = if q = k then some v else look es q := by
 induction es with
 | nil => simp [put_nil, look]
 | cons e es ih =>
  rw [put_cons]
  by_cases h : k = e.1
  ·rw [if_pos h]; simp only [look]; subst h; by_cases hq : q = e.1 <;> simp [hq]
  ·rw [if_neg h]; simp only [look, ih]
   by_cases hq : q = e.1
   ·have : q ≠ k := fun e' => h (e'.symm.trans hq)
    simp [hq, Ne.symm h]
   ·simp [hq]
theorem put_keys (es : Es β) (k : Int) (v : β) (c : Nat) : (put es k v c).map (·.1) = if (idx es k).isSome then es.map (·.1) else es.map (·.1) ++ [k] := by
 induction es with
 | nil => simp [put_nil, idx]
 | cons e es ih =>
  rw [put_cons]
  by_cases h : k = e.1
  ·simp [idx, h]
  ·rw [if_neg h, List.map_cons, ih]
   cases hi : idx es k <;> simp [idx, h, hi]
theorem put_born (es : Es β) (k : Int) (v : β) (c : Nat) : (put es k v c).map (·.2.2) = if (idx es k).isSome then es.map (·.2.2) else es.map (·.2.2) ++ [c] := by
 induction es with
 | nil => simp [put_nil, idx]
 | cons e es ih =>
  rw [put_cons]
  by_cases h : k = e.1
  ·simp [idx, h]
  ·rw [if_neg h, List.map_cons, ih]
   cases hi : idx es k <;> simp [idx, h, hi]
theorem not_mem_of_idx {es : Es β} {k : Int} (h : idx es k = none) : k ∉ es.map (·.1) := by
 induction es with
 | nil => simp
 | cons e es ih =>
  by_cases hk : k = e.1
  ·simp [idx, hk] at h
  ·simp only [idx, if_neg hk, Option.map_eq_none_iff] at h
   simp only [List.map_cons, List.mem_cons, not_or]
   exact ⟨hk, ih h⟩
theorem Good.put {es : Es β} {clk : Nat} (g : Good es clk) (k : Int) (v : β) : Good (put es k v clk) (putClk es k clk) := by
 have hb : ∀ e ∈ H.put es k v clk, e.2.2 ∈ (H.put es k v clk).map (·.2.2) := fun e he => List.mem_map.2 ⟨e, he, rfl⟩
 have hold : ∀ n ∈ es.map (·.2.2), n < clk := fun n hn => by obtain ⟨e, he, rfl⟩ := List.mem_map.1 hn; exact g.lt e he
 cases h : idx es k with
 | some j =>
  refine ⟨by rw [put_keys]; simpa [h] using g.keys, by rw [put_born]; simpa [h] using g.born, fun e he => ?_⟩
  have := hb e he
  rw [put_born] at this
  simp only [h, Option.isSome_some, if_true] at this
  simpa [putClk, h] using hold _ this
 | none =>
  refine ⟨?_, ?_, fun e he => ?_⟩
  ·rw [put_keys]; simp only [h, Option.isSome_none, Bool.false_eq_true, if_false]
   rw [List.nodup_append]
   refine ⟨g.keys, by simp, ?_⟩
   intro a ha b hb' e'
   simp only [List.mem_singleton] at hb'
   subst hb'; subst e'
   exact not_mem_of_idx h ha
  ·rw [put_born]; simp only [h, Option.isSome_none, Bool.false_eq_true, if_false]
   rw [List.nodup_append]
   refine ⟨g.born, by simp, ?_⟩
   intro a ha b hb' e'
   simp only [List.mem_singleton] at hb'
   subst hb'; subst e'
   exact Nat.lt_irrefl _ (hold _ ha)
  ·have := hb e he
   rw [put_born] at this
   simp only [h, Option.isSome_none, Bool.false_eq_true, if_false, List.mem_append, List.mem_singleton] at this
   rcases this with h1 | h1
   ·have := hold _ h1; simp [putClk, h]; omega
   ·simp [putClk, h, h1]
theorem del_filter {es : Es β} (hk : (es.map (·.1)).Nodup) (k : Int) : del es k = es.filter (fun e => decide (e.1 ≠ k)) := by
 induction es with
 | nil => rfl
 | cons e es ih =>
  have hk' := List.nodup_cons.1 (by simpa using hk : (e.1 :: es.map (·.1)).Nodup)
  by_cases h : k = e.1
  ·have : es.filter (fun e => decide (e.1 ≠ k)) = es := List.filter_eq_self.2 (fun x hx => by
    simp only [decide_eq_true_eq]
    intro e'
    exact hk'.1 (List.mem_map.2 ⟨x, hx, e'.trans h⟩))
   simp only [del, idx, if_pos h, List.eraseIdx_cons_zero]
   rw [List.filter_cons_of_neg (by simp [h]), this]
  ·have h2 := ih hk'.2
   rw [List.filter_cons_of_pos (by simpa using Ne.symm h), ← h2]
   simp only [del, idx, if_neg h]
   cases idx es k <;> simp
theorem look_mem {es : Es β} {k : Int} {v : β} (h : look es k = some v) : ∃ n, (k, v, n) ∈ es := by
 induction es with
 | nil => simp [look] at h
 | cons e es ih =>
  by_cases hk : k = e.1
  ·simp only [look, if_pos hk] at h
   obtain rfl := Option.some.inj h
   exact ⟨e.2.2, by subst hk; simp⟩
  ·simp only [look, if_neg hk] at h
   obtain ⟨n, hn⟩ := ih h
   exact ⟨n, by simp [hn]⟩
theorem mem_look {es : Es β} (hk : (es.map (·.1)).Nodup) {e : Int × β × Nat} (h : e ∈ es) : look es e.1 = some e.2.1 := by
 induction es with
 | nil => simp at h
 | cons x es ih =>
  have hk' := List.nodup_cons.1 (by simpa using hk : (x.1 :: es.map (·.1)).Nodup)
  rcases List.mem_cons.1 h with rfl | h
  ·simp [look]
  ·have : e.1 ≠ x.1 := fun e' => hk'.1 (e' ▸ List.mem_map.2 ⟨e, h, rfl⟩)
   simp [look, this, ih hk'.2 h]
theorem Good.filter {es : Es β} {clk : Nat} (g : Good es clk) (p : Int × β × Nat → Bool) : Good (es.filter p) clk :=
 ⟨(List.filter_sublist.map _).nodup g.keys, (List.filter_sublist.map _).nodup g.born, fun e he => g.lt e (List.mem_filter.1 he).1⟩
end

section
variable {P : Program} {ops : Array Oper} {rest : List Oper} {o : Oper} {a : Act} {Q : Exit → Act → World → Prop} {K : Act → World → Prop} {E : Prop} {w w' : World} {v : Value}
theorem step_val (hg : o.guard = none) (hrun : (execOp a.eval o).run P w = .ok (.value v) w') (hK : K (a.put o.dst v) w') : if Region.wanted o (yielded ops a.tmps) = true then Oper.wp P o a w K Q else E := by
 have hw : Region.wanted o (yielded ops a.tmps) = true := by simp [Region.wanted, hg]
 rw [if_pos hw]
 unfold Oper.wp
 rw [hrun]
 exact hK
theorem wpl_val (hg : o.guard = none) (hrun : (execOp a.eval o).run P w = .ok (.value v) w') (hK : wpList P ops Q rest (a.put o.dst v) w') : wpList P ops Q (o :: rest) a w := by
 refine wpList_plain hg fun K' hK' => ?_
 unfold Oper.wp
 rw [hrun]
 exact hK' _ _ hK
theorem wpl_skip (hg : o.guard = none) (hrun : (execOp a.eval o).run P w = .ok .skip w') (hK : wpList P ops Q rest (a.put o.dst undef) w') : wpList P ops Q (o :: rest) a w := by
 refine wpList_plain hg fun K' hK' => ?_
 unfold Oper.wp
 rw [hrun]
 exact hK' _ _ hK
theorem exec_append {s x : Operand} {t : TypeId} (ho : o.op = .call { callee := .builtin .append, args := #[s, x], argTypes := #[t, t] }) {u y : Value} (hs : a.eval s = u) (hx : a.eval x = y) (hr : (Builtin.append_ #[t, t] o.type #[u, y]).run P w = .ok v w') : (execOp a.eval o).run P w = .ok (.value v) w' := by
 unfold execOp
 simp only [ho, resolve, invoke, builtin, Sem.run_bind, Sem.run_pure, Result.andThen_ok, List.map_toArray, List.map_cons, List.map_nil, hs, hx, hr]
end

section
variable {β : Type}
theorem nodup_inj {α γ : Type} {f : α → γ} : ∀ {l : List α}, (l.map f).Nodup → ∀ {x y : α}, x ∈ l → y ∈ l → f x = f y → x = y
 | [], _, _, _, hx, _, _ => by cases hx
 | a :: l, h, x, y, hx, hy, e => by
  have h' := List.nodup_cons.1 (by simpa using h : (f a :: l.map f).Nodup)
  rcases List.mem_cons.1 hx with hx1 | hx1
  ·rcases List.mem_cons.1 hy with hy1 | hy1
   ·exact hx1.trans hy1.symm
   ·exact absurd (List.mem_map.2 ⟨y, hy1, (e.symm.trans (congrArg f hx1))⟩) h'.1
  ·rcases List.mem_cons.1 hy with hy1 | hy1
   ·exact absurd (List.mem_map.2 ⟨x, hx1, (e.trans (congrArg f hy1))⟩) h'.1
   ·exact nodup_inj h'.2 hx1 hy1 e
theorem look_iff {es : Es β} (hk : (es.map (·.1)).Nodup) {k : Int} {v : β} : look es k = some v ↔ ∃ n, (k, v, n) ∈ es :=
 ⟨look_mem, fun ⟨n, hn⟩ => mem_look hk hn⟩
def unseen (es : Es β) (seen : Array Nat) : Es β := es.filter fun e => !seen.contains e.2.2
theorem leftOf_eq (enc : β → Value) (es : Es β) (seen : Array Nat) : leftOf (es.map (mkE enc)).toArray seen = ((unseen es seen).map (mkE enc)).toArray := by
 simp only [leftOf, unseen, List.filter_toArray]
 congr 1
 rw [List.filter_map]
 rfl
theorem contains_push (seen : Array Nat) (b n : Nat) : (seen.push b).contains n = (seen.contains n || n == b) := by
 rw [Bool.eq_iff_iff]; simp [Or.comm]
theorem unseen_push {es : Es β} {seen : Array Nat} {e : Int × β × Nat} (he : e ∈ unseen es seen) : (unseen es (seen.push e.2.2)).length < (unseen es seen).length := by
 have : unseen es (seen.push e.2.2) = (unseen es seen).filter fun x => !(x.2.2 == e.2.2) := by
  simp only [unseen, contains_push, Bool.not_or, List.filter_filter]
  congr 1
  funext x
  rw [Bool.and_comm]
 rw [this]
 exact List.length_filter_lt_length_iff_exists.2 ⟨e, he, by simp⟩
theorem look_seen {es : Es β} {clk : Nat} (g : Good es clk) {e : Int × β × Nat} (he : e ∈ es) (seen : Array Nat) (kk : Int) :
  look (es.filter fun x => (seen.push e.2.2).contains x.2.2) kk = if kk = e.1 then some e.2.1 else look (es.filter fun x => seen.contains x.2.2) kk := by
 apply Option.ext
 intro v
 rw [look_iff (g.filter _).keys]
 simp only [List.mem_filter, contains_push, Bool.or_eq_true, beq_iff_eq]
 by_cases h : kk = e.1
 ·subst h
  simp only [if_pos, Option.some.injEq]
  constructor
  ·rintro ⟨n, hn, _⟩
   have := nodup_inj g.keys hn he rfl
   rw [← this]
  ·rintro rfl
   exact ⟨e.2.2, he, .inr rfl⟩
 ·rw [if_neg h, look_iff (g.filter _).keys]
  simp only [List.mem_filter]
  constructor
  ·rintro ⟨n, hn, h1 | h1⟩
   ·exact ⟨n, hn, h1⟩
   ·have := nodup_inj g.born hn he h1
    exact absurd (congrArg (·.1) this) h
  ·rintro ⟨n, hn, h1⟩
   exact ⟨n, hn, .inl h1⟩
theorem look_all {es : Es β} {seen : Array Nat} (h : unseen es seen = []) : es.filter (fun x => seen.contains x.2.2) = es := by
 rw [List.filter_eq_self]
 intro x hx
 have := List.filter_eq_nil_iff.1 h x hx
 simpa using this
end
section
variable {β : Type} {P : Program} {ops : Array Oper} {rest : List Oper} {o : Oper} {a : Act} {Q : Exit → Act → World → Prop} {w : World} {enc : β → Value} {es : Es β} {clk r t e : Nat}
theorem wpl_range (m : Operand) (i : Nat) (hi : i = w.heap.size) (hg : o.guard = none) (ho : o.op = .range t m) (ht : P.underlying t = some (.map 3 e)) (hm : a.eval m = .map (some r)) (hb : w.heap[r]? = some (obj enc es clk))
  (h : wpList P ops Q rest (a.put o.dst (.pointer (some ⟨i, 0, none⟩))) (w.alloc (.mapIter (some r) clk #[] clk))) : wpList P ops Q (o :: rest) a w := by
 subst hi
 have hb' : w.heap[r]? = some (.map (es.map (mkE enc)).toArray clk) := hb
 refine wpl_val hg (w' := w.alloc (.mapIter (some r) clk #[] clk)) ?_ h
 unfold execOp
 simp only [ho, hm, Instr.range, Sem.run_bind, Sem.run_map, run_underlying ht, Go.MapKept.run_getObj_map hb', Result.andThen, Sem.run_pure, run_newObj]
 rfl
theorem wpl_next (it : Operand) {i : Nat} {seen : Array Nat} (hg : o.guard = none) (ho : o.op = .next it false) (hit : a.eval it = .pointer (some ⟨i, 0, none⟩)) (hi : w.heap[i]? = some (.mapIter (some r) clk seen clk)) (hb : w.heap[r]? = some (obj enc es clk)) (g : Good es clk)
  (hDone : unseen es seen = [] → wpList P ops Q rest (a.put o.dst (.tuple #[.bool false])) w)
  (hMore : ∀ e ∈ unseen es seen, ∀ W : World, Fr w W [i] → W.heap.size = w.heap.size → W.heap[i]? = some (.mapIter (some r) clk (seen.push e.2.2) clk) → (Instr.entry (.pointer (some ⟨i, 0, none⟩))).run P W = .ok (.tuple #[.int .i64 e.1, enc e.2.1]) W → wpList P ops Q rest (a.put o.dst (.tuple #[.bool true, .int .i64 e.1, enc e.2.1])) W) : wpList P ops Q (o :: rest) a w := by
 have hb' : w.heap[r]? = some (.map (es.map (mkE enc)).toArray clk) := hb
 have hil := (Array.getElem?_eq_some_iff.1 hi).1
 rcases run_next_at (P := P) w o.type i r clk clk seen (es.map (mkE enc)).toArray clk hi hb' (by
  intro x hx
  simp only [List.mem_map] at hx
  obtain ⟨y, hy, rfl⟩ := hx
  exact g.lt y hy) (Nat.le_refl _) with ⟨h0, hrun⟩ | ⟨x, hx, w1, hw1, hrun⟩
 ·refine wpl_val hg ?_ (hDone ?_)
  ·unfold execOp
   simp only [ho, hit, Sem.run_bind, Sem.run_map, hrun, Result.andThen, Sem.run_pure]
  ·rw [leftOf_eq] at h0
   simpa using h0
 ·rw [leftOf_eq] at hx
  simp only [List.mem_map] at hx
  obtain ⟨y, hy, rfl⟩ := hx
  have hh : w1.heap = w.heap := by rcases hw1 with rfl | rfl <;> rfl
  have hne : i ≠ r := fun e => by subst e; rw [hi] at hb'; cases hb'
  have hset : (setBlock w1 i (.mapIter (some r) clk (seen.push y.2.2) clk)).heap[i]? = some (.mapIter (some r) clk (seen.push y.2.2) clk) := by
   simp [setBlock, hh, hil]
  refine wpl_val hg (w' := setBlock w1 i (.mapIter (some r) clk (seen.push y.2.2) clk)) ?_ (hMore y hy _ ⟨?_, ?_, ?_, ?_, ?_⟩ ?_ hset ?_)
  ·unfold execOp
   simp only [ho, hit, Sem.run_bind, Sem.run_map, hrun, Result.andThen, Sem.run_pure]
   rfl
  ·rcases hw1 with rfl | rfl <;> rfl
  ·rcases hw1 with rfl | rfl <;> rfl
  ·rcases hw1 with rfl | rfl <;> rfl
  ·simp [setBlock, hh]
  ·intro k hk hn
   simp only [setBlock, hh]
   rw [Array.getElem?_setIfInBounds_ne (by simpa [eq_comm] using hn)]
  ·simp [setBlock, hh]
  ·refine run_entry_at _ i r clk seen (es.map (mkE enc)).toArray clk (mkE enc y) hset ?_ ?_ ?_
   ·simp only [setBlock, hh]
    rw [Array.getElem?_setIfInBounds_ne hne]
    exact hb'
   ·simp only [List.mem_map]
    exact ⟨y, (List.mem_filter.1 hy).1, rfl⟩
   ·simpa [Function.comp_def, mkE] using g.born
end
end Go.Proofs.YtpoehkacfmljcaaGreatDoor.H
