/- The verifier's stack: pop, push. -/
import Derived.Test.YtpoehkacfmljcaaGreatDoorZV
import Derived.Test.YtpoehkacfmljcaaGreatDoorZHA
import Derived.Deep.RegionLaw
import Derived.Test.YtpoehkacfmljcaaGreatDoorZHB
set_option maxHeartbeats 4000000
set_option maxRecDepth 100000
namespace Go.Proofs.YtpoehkacfmljcaaGreatDoor.H
open Go.RowKit Go.Proofs.YtpoehkacfmljcaaGreatDoorW.PrintWords Go.Proofs.YtpoehkacfmljcaaGreatDoorW.PrintLast Go.Proofs.YtpoehkacfmljcaaGreatDoorW.PrintMore
open Go.ChangeMaps (setBlock)
attribute [local go_sem] max2_int min2_int max_two min_two max_three min_three max_four min_four
set_option linter.unusedVariables false
set_option linter.unusedSimpArgs false

def encB (b : Bool) : Value := .agg #[.bool b]
def Bs (w : World) (v : Value) (xs : List Bool) : Prop := w.ownsRow 0 251 1 v xs.length (bools xs)
theorem Bs.move {w w' : World} {v : Value} {xs : List Bool} (h : Bs w v xs) (hm : ∀ k, v.ownBlock = some k → w'.heap[k]? = w.heap[k]?) : Bs w' v xs := own_move h hm
theorem Bs.lt {w : World} {v : Value} {xs : List Bool} (h : Bs w v xs) : ∀ k, v.ownBlock = some k → k < w.heap.size := fun k hk => own_lt h k hk
theorem Bs.fr {w w' : World} {v : Value} {xs : List Bool} {L : List Nat} (h : Bs w v xs) (hf : Fr w w' L) (hn : ∀ k, v.ownBlock = some k → k ∉ L) : Bs w' v xs := h.move fun k hk => hf.block k (h.lt k hk) (hn k hk)
theorem Bs.form {w : World} {v : Value} {xs : List Bool} {x : Bool} (h : Bs w v (xs ++ [x])) : ∃ g cap, v = .slice (some ⟨g, 0, none⟩) (xs.length + 1) cap ∧ xs.length + 1 ≤ cap ∧ cap ≤ maxLen ∧ w.cell? ⟨g, xs.length, none⟩ = some (.bool x) ∧ (∃ cs, w.heap[g]? = some (.cells cs 251 (0, 0))) ∧ Bs w (.slice (some ⟨g, 0, none⟩) xs.length cap) xs := by
 obtain ⟨h1, h2⟩ := h
 rcases h2 with ⟨_, h2⟩ | ⟨g, cap, cur, rfl, hb, hg, hn, hm, hs, ht⟩
 ·simp at h2
 ·simp only [List.length_append, List.length_cons, List.length_nil, Nat.zero_add, Nat.mul_one] at *
  have e : cur.toList.take (xs.length + 1) = bools xs ++ [.bool x] := by rw [ht]; simp [bools]
  have hc : cur[xs.length]? = some (.bool x) := by
   have h3 : (cur.toList.take (xs.length + 1))[xs.length]? = some (.bool x) := by rw [e]; simp [bools]
   rw [List.getElem?_take] at h3
   simpa using h3
  refine ⟨g, cap, rfl, hn, hm, by rw [cell_of_row w g xs.length cur 251 _ hg]; exact hc, ⟨cur, hg⟩, by simp [bools], .inr ⟨g, cap, cur, rfl, hb, hg, by omega, hm, by rw [hs, Nat.mul_one], ?_⟩⟩
  rw [Nat.mul_one]
  have h4 : (cur.toList.take (xs.length + 1)).take xs.length = bools xs := by rw [e]; simp [bools]
  rw [List.take_take] at h4
  simpa using h4

theorem pop_calls (p : Nat) (v m : Value) (xs : List Bool) (x : Bool) (w : World) (hp : w.heap[p]? = some (.cells #[v, m] 215 (0, 0))) (hv : Bs w v (xs ++ [x])) :
  Calls Tryz.prog 160 #[.pointer (some ⟨p, 0, none⟩)] w fun e w' => ∃ v', e = .returned (encB x) ∧ Fr w w' [p] ∧ w'.heap[p]? = some (.cells #[v', m] 215 (0, 0)) ∧ Bs w' v' xs ∧ v'.ownBlock = v.ownBlock := by
 obtain ⟨g, cap, rfl, hcap, hcap2, hx, ⟨cs, hg⟩, hv'⟩ := hv.form
 have hlt := blk_lt hp
 have hglt := blk_lt hg
 have c0 := blk_cell hp 0
 have z0 := blk_frozen hp 0
 have hne : g ≠ p := fun e => by subst e; rw [hg] at hp; simp at hp
 have HF := AsM hp
 have HV := AsM hv'
 have hl : xs.length + 1 ≤ 9223372036854775807 := by unfold maxLen at hcap2; omega
 clear hp hv hv' hg
 go_enter Tryz.func160, Tryz.ntmps160
 go_wp2
 go_region
 go_wp2
 go_region
 go_wp2
 refine bodyPost_ret (results_cell_row rfl _ _ w.heap.size 251 #[.bool x] (0, 0) _ rfl (blk_drew (blk_drew (blk_alloc (blk_newN (by simp [World.setCell])) _))) Tryz.underlying251 rfl rfl) rfl ?_
 have hf : Fr w (((w.setCell { block := p, off := 0 } (Value.slice (some { block := g, off := 0 }) xs.length cap)).alloc (Obj.cells #[Value.bool x] 251)).alloc (Obj.cells #[Value.bool x] 251)).drew.drew [p] := by (with_reducible (repeat (first | refine Fr.drew ?_ | refine Fr.drewN ?_ _ | refine Fr.alloc ?_ _ | refine Fr.setCell ?_ _ _ ?_))) <;> first | exact Fr.refl _ _ | simp
 exact ⟨_, rfl, hf, blk_drew (blk_drew (blk_alloc (blk_alloc (blk_set HF.out 0 _) _) _)), HV.out.fr hf (by simpa [Value.ownBlock] using hne), rfl⟩

theorem info251 : (Tryz.prog.info? 251).map (fun i => (i.zero, i.size, i.bytes)) = some (some (.agg #[.bool false]), 1, 1) := by kernel_rfl
theorem run_app (W : World) (v : Value) (xs ys : List Bool) (ty : TypeId) (A : Option Addr) (m c : Nat) (HO : Bs W v xs) (HR : ReadsOf Value.bool false W A m ys) (hl : xs.length + m ≤ 140737488355328) :
  ∃ v1 w1, (Builtin.append_ #[211, 211] ty #[v, .slice A m c]).run Tryz.prog W = .ok v1 w1 ∧ Bs w1 v1 (xs ++ ys) ∧ W.grownBy w1 v.ownBlock ∧ (v1.ownBlock = v.ownBlock ∨ v1.ownBlock = some W.heap.size) := by
 obtain ⟨i0, hi, hzz⟩ := Option.map_eq_some_iff.1 info251
 simp only [Prod.mk.injEq] at hzz
 obtain ⟨hz0, hz1, hz2⟩ := hzz
 have hm : ys.length = m := HR.1
 have ht := Tryz.underlying211
 rcases A with _ | ad
 ·have h0 : m = 0 := by
   rcases Nat.eq_zero_or_pos m with h0 | h0
   ·exact h0
   ·obtain ⟨ad, h, _⟩ := HR.2.2 h0
    cases h
  subst h0
  obtain rfl : ys = [] := List.eq_nil_of_length_eq_zero hm
  refine ⟨v, W, ?_, by simpa using HO, World.grownBy.refl W _, .inl rfl⟩
  rcases HO.2 with ⟨rfl, hn⟩ | ⟨g, cap, cur, rfl, _, _, hnc, _⟩
  ·simp [Builtin.append_, run_underlying ht, sizeOf, typeInfo, hi, Builtin.lenOf, Builtin.firstCells]
  ·simp [Builtin.append_, run_underlying ht, sizeOf, typeInfo, hi, Builtin.lenOf, Builtin.firstCells, hnc, storeCells]
 ·have hcells : ∀ j u, (bools ys)[j]? = some u → W.cell? (ad.add j) = some u := by
   intro j u hu
   have hj : j < ys.length := by
    rcases Nat.lt_or_ge j ys.length with h | h
    ·exact h
    ·simp [bools, List.getElem?_eq_none h] at hu
   obtain ⟨ad', h', hc⟩ := HR.2.2 (by omega)
   injection h' with h'
   subst h'
   have he := encs_get (enc := Value.bool) (d := false) ys j hj
   rw [show encs Value.bool ys = bools ys from rfl, hu] at he
   rw [he]
   exact hc j (by omega)
  obtain ⟨v1, w1, hr, h2, h3, _, h5⟩ := run_append_own_at (P := Tryz.prog) W 0 211 ty 251 i0 _ 1 1 ht hi hz0 hz1 hz2 rfl (by omega) v xs.length (bools xs) HO ad m c (bools ys) (by simp [bools, hm]) hcells
   (by intro u hu; simp only [bools, List.mem_map] at hu; obtain ⟨q, _, rfl⟩ := hu; rfl) (by simp only [maxLen]; omega) (by omega) (Nat.zero_le _)
  exact ⟨v1, w1, hr, by simpa [Bs, bools, hm] using h2, h3, h5⟩
section
variable {ops : Array Oper} {o : Oper} {a : Act} {Q : Exit → Act → World → Prop} {K : Act → World → Prop} {E : Prop} {W : World}
theorem step_app (s x : Operand) (hg0 : o.guard = none) (ho : o.op = .call { callee := .builtin .append, args := #[s, x], argTypes := #[211, 211] }) (v : Value) (xs : List Bool) (b : Bool) (ad : Addr) (hs : a.eval s = v) (hx : a.eval x = .slice (some ad) 1 1) (HO : Bs W v xs) (hc : W.cell? ad = some (.bool b)) (hl : xs.length + 1 ≤ 140737488355328)
  (h : ∀ v1 w1, Bs w1 v1 (xs ++ [b]) → W.grownBy w1 v.ownBlock → (v1.ownBlock = v.ownBlock ∨ v1.ownBlock = some W.heap.size) → K (a.put o.dst v1) w1) : if Region.wanted o (yielded ops a.tmps) = true then Oper.wp Tryz.prog o a W K Q else E := by
 obtain ⟨v1, w1, hr, h1, h2, h3⟩ := run_app W v xs [b] o.type (some ad) 1 1 HO ⟨rfl, by simp, fun _ => ⟨ad, rfl, fun j hj => by
  obtain rfl : j = 0 := by omega
  simpa [Addr.add] using hc⟩⟩ hl
 exact step_val hg0 (exec_append ho hs hx hr) (h v1 w1 h1 h2 h3)
end
theorem Fr.grown {a w w1 : World} {L : List Nat} {row : Option Nat} (h : Fr a w L) (hg : w.grownBy w1 row) (hr : ∀ k, row = some k → k ∈ L ∨ a.heap.size ≤ k) : Fr a w1 L :=
 h.trans (M := row.toList) ⟨hg.os, hg.tape, hg.output, hg.size, fun k hk hn => hg.block k hk (fun e => hn (by simp [← e]))⟩ (fun i hi => hr i (by simpa using hi))
theorem at_grown {w w1 : World} {g : Nat} {o : Obj} {row : Option Nat} (h : w.heap[g]? = some o) (hg : w.grownBy w1 row) (hne : row ≠ some g) : w1.heap[g]? = some o := (hg.block g (blk_lt h) (fun e => hne e.symm)).trans h
theorem Bs.ne {w : World} {v : Value} {xs : List Bool} (h : Bs w v xs) {g : Nat} {cs : Array Value} {t : TypeId} (hg : w.heap[g]? = some (.cells cs t (0, 0))) (ht : t ≠ 251) : v.ownBlock ≠ some g := fun e => by
 obtain ⟨cells, hc⟩ := own_typed h g e
 rw [hg] at hc
 simp at hc
 exact ht hc.2
theorem Bs.slice {w : World} {v : Value} {xs : List Bool} (h : Bs w v xs) : ∃ A c, v = .slice A xs.length c ∧ ReadsOf Value.bool false w A xs.length xs := own_reads_of (enc := Value.bool) h
theorem push_calls (p : Nat) (v m : Value) (xs : List Bool) (x : Bool) (w : World) (hp : w.heap[p]? = some (.cells #[v, m] 215 (0, 0))) (hv : Bs w v xs) (hl : xs.length + 1 ≤ 140737488355328) :
  Calls Tryz.prog 161 #[.pointer (some ⟨p, 0, none⟩), encB x] w fun e w' => ∃ v', e = .returned (.tuple #[]) ∧ Fr w w' (p :: v.ownBlock.toList) ∧ w'.heap[p]? = some (.cells #[v', m] 215 (0, 0)) ∧ Bs w' v' (xs ++ [x]) ∧ (v'.ownBlock = v.ownBlock ∨ ∃ g, v'.ownBlock = some g ∧ w.heap.size ≤ g) := by
 obtain ⟨A, c, rfl, hr⟩ := hv.slice
 have hlt := blk_lt hp
 have c0 := blk_cell hp 0
 have z0 := blk_frozen hp 0
 have HF := AsM hp
 have HV := AsM hv
 have HN := AsM (hv.ne hp (by decide))
 clear hp hv hr
 show Calls Tryz.prog 161 #[.pointer (some ⟨p, 0, none⟩), .agg #[.bool x]] w _
 go_enter Tryz.func161, Tryz.ntmps161
 go_wp2
 go_region_law (refine step_app (.tmp 8) (.tmp 10) rfl rfl (.slice A xs.length c) xs x _ rfl rfl (HV.out.fr (L := []) (by (with_reducible (repeat (first | refine Fr.drew ?_ | refine Fr.drewN ?_ _ | refine Fr.alloc ?_ _ | refine Fr.setCell ?_ _ _ ?_))) <;> first | exact Fr.refl _ _ | simp) (by simp)) (by simp) hl ?_; intro v1 w1 hB1 hg1 hat1; obtain ⟨A1, cp1, rfl, _⟩ := hB1.slice; have hp1 := AsM (at_grown (by (with_reducible (repeat (first | apply blk_drew | apply blk_alloc | apply blk_set))); exact HF.out) hg1 HN.out); have hf1 := AsM (Fr.grown (a := w) (L := p :: (Value.slice A xs.length c).ownBlock.toList) (by (with_reducible (repeat (first | refine Fr.drew ?_ | refine Fr.drewN ?_ _ | refine Fr.alloc ?_ _ | refine Fr.setCell ?_ _ _ ?_))) <;> first | exact Fr.refl _ _ | simp) hg1 (fun k hk => .inl (by simp [hk]))); have c1 := blk_cell hp1.out 0; have z1 := blk_frozen hp1.out 0; have HB1 := AsM hB1; have HA1 := AsM hat1; clear c0 z0 hB1 hg1 hat1)
 all_goals (
  go_end0
  have hne := HB1.out.ne hp1.out (by decide)
  exact ⟨_, rfl, Fr.setCell hf1.out _ _ (.inl (by simp)), blk_to (blk_set hp1.out 0 _) (by simp), by have := HB1.out.move (w' := w1.setCell { block := p, off := 0 } (Value.slice A1 (xs.length + 1) cp1)) (fun k hk => Below.heap_setCell _ _ _ _ (fun e => hne (hk.trans (congrArg some e)))); simpa using this, HA1.out.imp id (fun e => ⟨_, e, by simp; omega⟩)⟩)
section
variable {ops : Array Oper} {rest : List Oper} {o : Oper} {a : Act} {Q : Exit → Act → World → Prop} {W : World}
theorem wpl_app (s x : Operand) (hg0 : o.guard = none) (ho : o.op = .call { callee := .builtin .append, args := #[s, x], argTypes := #[211, 211] }) (v : Value) (xs ys : List Bool) (A : Option Addr) (m c : Nat) (hs : a.eval s = v) (hx : a.eval x = .slice A m c) (HO : Bs W v xs) (HR : ReadsOf Value.bool false W A m ys) (hl : xs.length + m ≤ 140737488355328)
  (h : ∀ v1 w1, Bs w1 v1 (xs ++ ys) → W.grownBy w1 v.ownBlock → (v1.ownBlock = v.ownBlock ∨ v1.ownBlock = some W.heap.size) → wpList Tryz.prog ops Q rest (a.put o.dst v1) w1) : wpList Tryz.prog ops Q (o :: rest) a W := by
 obtain ⟨v1, w1, hr, h1, h2, h3⟩ := run_app W v xs ys o.type A m c HO HR hl
 exact wpl_val hg0 (exec_append ho hs hx hr) (h v1 w1 h1 h2 h3)
end
theorem wpl_nextB {ops : Array Oper} {rest : List Oper} {o : Oper} {a : Act} {Q : Exit → Act → World → Prop} {w : World} {es : Es Bool} {clk r : Nat} (it : Operand) {i : Nat} {seen : Array Nat} (hg : o.guard = none) (ho : o.op = .next it false) (hit : a.eval it = .pointer (some ⟨i, 0, none⟩)) (hi : w.heap[i]? = some (.mapIter (some r) clk seen clk)) (hb : w.heap[r]? = some (obj encB es clk)) (g : Good es clk)
  (hDone : unseen es seen = [] → wpList Tryz.prog ops Q rest (a.put o.dst (.tuple #[.bool false])) w)
  (hMore : ∀ (k : Int) (b : Bool) (n : Nat), (k, b, n) ∈ unseen es seen → ∀ W : World, Fr w W [i] → W.heap[i]? = some (.mapIter (some r) clk (seen.push n) clk) → (Instr.entry (.pointer (some ⟨i, 0, none⟩))).run Tryz.prog W = .ok (.tuple #[.int .i64 k, .agg #[.bool b]]) W → wpList Tryz.prog ops Q rest (a.put o.dst (.tuple #[.bool true, .int .i64 k, .agg #[.bool b]])) W) : wpList Tryz.prog ops Q (o :: rest) a w :=
 wpl_next it hg ho hit hi hb g hDone fun e he W h1 _ h3 h4 => hMore e.1 e.2.1 e.2.2 he W h1 h3 h4
theorem fr_block {w : World} {r : Nat} {o : Obj} {o' : Obj} (hb : w.heap[r]? = some o) : Fr w (setBlock w r o') [r] ∧ (setBlock w r o').heap[r]? = some o' := by
 have hlt := (Array.getElem?_eq_some_iff.1 hb).1
 refine ⟨⟨rfl, rfl, rfl, by simp [setBlock], fun k hk hn => ?_⟩, by simp [setBlock, hlt]⟩
 simp only [setBlock]
 rw [Array.getElem?_setIfInBounds_ne (by simpa [eq_comm] using hn)]
theorem put_run {w : World} {r : Nat} {es : Es Bool} {clk : Nat} (hb : w.heap[r]? = some (obj encB es clk)) (k : Int) (b : Bool) : ∃ W2, (Instr.mapUpdate 210 (.map (some r)) (.int .i64 k) (.agg #[.bool b])).run Tryz.prog w = .ok () W2 ∧ Fr w W2 [r] ∧ W2.heap[r]? = some (obj encB (put es k b clk) (putClk es k clk)) :=
 ⟨_, run_put (enc := encB) b Tryz.underlying210 Tryz.underlying3 hb, fr_block hb⟩
theorem del_run {w : World} {r : Nat} {es : Es Bool} {clk : Nat} (hb : w.heap[r]? = some (obj encB es clk)) (k : Int) : ∃ W2, (∀ ty, (Builtin.delete_ #[210, 3] ty #[.map (some r), .int .i64 k]).run Tryz.prog w = .ok (.tuple #[]) W2) ∧ Fr w W2 [r] ∧ W2.heap[r]? = some (obj encB (del es k) clk) :=
 ⟨_, fun ty => run_del (enc := encB) Tryz.underlying210 Tryz.underlying3 hb ty, fr_block hb⟩
theorem Bs.empty (W : World) : Bs (W.alloc (.cells #[] 251)) (.slice (some ⟨W.heap.size, 0, none⟩) 0 0) [] := World.ownsRow_made W #[] 0 (Nat.zero_le _) (by simp [maxLen]) rfl
structure St (w : World) (p : Nat) (v : Value) (r : Nat) (xs : List Bool) (es : Es Bool) (clk : Nat) : Prop where
 blk : w.heap[p]? = some (.cells #[v, .map (some r)] 215 (0, 0))
 row : Bs w v xs
 mp : w.heap[r]? = some (obj encB es clk)
 good : Good es clk
theorem Bs.alloc {w : World} {v : Value} {xs : List Bool} (h : Bs w v xs) (o : Obj) : Bs (w.alloc o) v xs := h.move fun k hk => Below.heap_alloc w o k (h.lt k hk)
theorem Bs.drew {w : World} {v : Value} {xs : List Bool} (h : Bs w v xs) : Bs w.drew v xs := h.move fun _ _ => rfl
theorem Bs.drewN {w : World} {v : Value} {xs : List Bool} (h : Bs w v xs) (n : Nat) : Bs (w.drewN n) v xs := h.move fun _ _ => rfl
theorem St.fr {w w' : World} {p r clk : Nat} {v : Value} {xs : List Bool} {es : Es Bool} {L : List Nat} (h : St w p v r xs es clk) (hf : Fr w w' L) (h1 : p ∉ L) (h2 : r ∉ L) (h3 : ∀ k, v.ownBlock = some k → k ∉ L) : St w' p v r xs es clk :=
 ⟨hf.blk h.blk h1, h.row.fr hf h3, hf.blk h.mp h2, h.good⟩
theorem St.new {w w' : World} {p r clk : Nat} {v : Value} {xs : List Bool} {es : Es Bool} (h : St w p v r xs es clk) (hf : Fr w w' []) : St w' p v r xs es clk := h.fr hf (by simp) (by simp) (by simp)
theorem Bs.neIt {w : World} {v : Value} {xs : List Bool} (h : Bs w v xs) {g : Nat} {m : Option Nat} {a : Nat} {b : Array Nat} {c : Nat} (hg : w.heap[g]? = some (.mapIter m a b c)) : ∀ k, v.ownBlock = some k → k ≠ g := fun k hk e => by
 subst e
 obtain ⟨cells, hc⟩ := own_typed h k hk
 rw [hg] at hc
 cases hc
theorem Bs.neMap {w : World} {v : Value} {xs : List Bool} (h : Bs w v xs) {g : Nat} {es : Es Bool} {c : Nat} (hg : w.heap[g]? = some (obj encB es c)) : ∀ k, v.ownBlock = some k → k ≠ g := fun k hk e => by
 subst e
 obtain ⟨cells, hc⟩ := own_typed h k hk
 rw [hg] at hc
 cases hc
theorem St.ne_pr {w : World} {p r clk : Nat} {v : Value} {xs : List Bool} {es : Es Bool} (h : St w p v r xs es clk) : p ≠ r := fun e => by
 have h1 := h.blk
 rw [e, h.mp] at h1
 simp [obj] at h1
theorem St.popped {w w' : World} {p r clk : Nat} {v v' : Value} {xs xs' : List Bool} {es : Es Bool} (h : St w p v r xs es clk) (hf : Fr w w' [p]) (hb : w'.heap[p]? = some (.cells #[v', .map (some r)] 215 (0, 0))) (hr : Bs w' v' xs') : St w' p v' r xs' es clk :=
 ⟨hb, hr, hf.blk h.mp (by simpa using Ne.symm h.ne_pr), h.good⟩
theorem St.drew {w : World} {p r clk : Nat} {v : Value} {xs : List Bool} {es : Es Bool} (h : St w p v r xs es clk) : St w.drew p v r xs es clk := ⟨h.blk, h.row.drew, h.mp, h.good⟩
theorem St.pushed {w w' : World} {p r clk : Nat} {v v' : Value} {xs xs' : List Bool} {es : Es Bool} (h : St w p v r xs es clk) (hf : Fr w w' (p :: v.ownBlock.toList)) (hb : w'.heap[p]? = some (.cells #[v', .map (some r)] 215 (0, 0))) (hr : Bs w' v' xs') : St w' p v' r xs' es clk :=
 ⟨hb, hr, hf.blk h.mp (by
  intro hm
  rcases List.mem_cons.1 hm with h1 | h1
  ·exact h.ne_pr h1.symm
  ·exact h.row.neMap h.mp r (by simpa using h1) rfl), h.good⟩
theorem Fr.set (w : World) (p : Addr) (u : Value) : Fr w (w.setCell p u) [p.block] := (Fr.refl w [p.block]).setCell p u (.inl (by simp))
theorem twin_calls (p r clk : Nat) (v : Value) (xs : List Bool) (es : Es Bool) (w : World) (hs : St w p v r xs es clk) (hl : xs.length ≤ 140737488355328) :
  Calls Tryz.prog 136 #[.pointer (some ⟨p, 0, none⟩)] w fun e w' => ∃ q v' r' es' clk', e = .returned (.pointer (some ⟨q, 0, none⟩)) ∧ Fr w w' [] ∧ St w' q v' r' xs es' clk' ∧ (∀ k, look es' k = look es k) ∧ w.heap.size ≤ q ∧ w.heap.size ≤ r' ∧ (∀ g, v'.ownBlock = some g → w.heap.size ≤ g) := by
 obtain ⟨A, c, rfl, hr⟩ := hs.row.slice
 have hlt := blk_lt hs.blk
 have c0 := blk_cell hs.blk 0
 have c1 := blk_cell hs.blk 1
 have HS0 := AsM hs
 have HR0 := AsM hr
 clear hs hr
 have hmm := @run_makeMap Tryz.prog
 go_enter Tryz.func136, Tryz.ntmps136
 go_wp2_with (first | (at_builtin; refine wpl_app (.tmp 6) (.tmp 11) rfl rfl (.slice (some ⟨w.heap.size, 0, none⟩) 0 0) [] xs A xs.length c rfl rfl (Bs.empty w) (HR0.out.below (below_alloc (Below.refl _ _) _)) (by simpa using hl) ?_; intro v1 w1 hB1 hg1 hat1; obtain ⟨A1, cp1, rfl, _⟩ := hB1.slice; have HF1 := AsM (Fr.grown (Fr.alloc (Fr.refl w []) _) hg1 (by simp [Value.ownBlock])); have HB1 := AsM hB1; have c01 := blk_cell (HF1.out.blk HS0.out.blk (by simp)) 0; have c11 := blk_cell (HF1.out.blk HS0.out.blk (by simp)) 1; have hlt1 : p < w1.heap.size := Nat.lt_of_lt_of_le hlt HF1.out.size; have HA1 : Aside0 (∀ g, (Value.slice A1 ([] ++ xs).length cp1).ownBlock = some g → w.heap.size ≤ g) := ⟨by intro g hg; rcases hat1 with h | h <;> rw [h] at hg <;> simp [Value.ownBlock] at hg <;> omega⟩; clear hB1 hg1 c0 c1 hat1) | (at_range; refine wpl_range (.tmp 20) (w1.heap.size + 1 + 1) (by simp) rfl rfl Tryz.underlying210 rfl (blk_alloc (blk_alloc (HF1.out.blk HS0.out.mp (by simp)) _) _) ?_))
 go_frame
 go_loopg [] ((unseen es #[]).length) (fun kq wr => ∃ (seen : Array Nat) (cs : Es Bool) (clk2 : Nat), Aside0 ((unseen es seen).length ≤ kq) ∧ Aside0 (Fr w wr []) ∧ Aside0 (wr.heap[w1.heap.size + 1 + 1]? = some (.mapIter (some r) clk seen clk)) ∧ Aside0 (St wr (w1.heap.size + 1) (.slice A1 xs.length cp1) w1.heap.size xs cs clk2) ∧ Aside0 (∀ k, look cs k = look (es.filter fun x => seen.contains x.2.2) k))
 case atStart => exact ⟨#[], [], 0, ⟨Nat.le_refl _⟩, ⟨(by (with_reducible (repeat (first | refine Fr.drew ?_ | refine Fr.drewN ?_ _ | refine Fr.alloc ?_ _ | refine Fr.setCell ?_ _ _ ?_))) <;> first | exact Fr.refl _ _ | exact HF1.out | simp)⟩, ⟨blk_newN (by simp)⟩, ⟨blk_alloc (blk_newN (by simp)) _, by have := ((HB1.out.alloc (Obj.map #[] 0)).alloc (Obj.cells #[Value.slice A1 xs.length cp1, Value.map (some w1.heap.size)] 215)).alloc (.mapIter (some r) clk #[] clk); simpa using this, blk_alloc (blk_alloc (blk_newN rfl) _) _, Good.nil⟩, ⟨fun k => by rw [List.filter_eq_nil_iff.2 (by simp)]⟩⟩
 case round =>
  obtain ⟨seen, cs, clk2, HM, HFr, HIt, HSt, HLk⟩ := hrel
  go_wp2_with (first | (at_next; refine wpl_nextB (.tmp 21) rfl rfl rfl HIt.out (HFr.out.blk HS0.out.mp (by simp)) HS0.out.good (fun hd => ?_) (fun ke be ne he W hFW hitW hen => ?_)))
  ·go_ret
   have hLk := HLk.out
   rw [look_all hd] at hLk
   have := HF1.out.size
   exact ⟨_, _, _, cs, clk2, rfl, HFr.out, HSt.out, hLk, by omega, by omega, by simpa using HA1.out⟩
  ·have HIW := AsM hitW
   have HFW := AsM hFW
   have HSt2 := AsM (HSt.out.fr hFW (by simp) (by simp; omega) (by simpa using HSt.out.row.neIt HIt.out))
   obtain ⟨W2, hmu, hF2, hm2⟩ := put_run (w := (W.alloc (Obj.cells #[Value.bool be] 251)).drew) (blk_drew (blk_alloc HSt2.out.mp _)) ke be
   have HF2 := AsM hF2
   have HM2 := AsM hm2
   have hq1 := blk_cell HSt2.out.blk 1
   have hqlt := blk_lt HSt2.out.blk
   clear hFW hitW hen hF2 hm2
   go_region
   go_wp2
   go_roundg ((unseen es (seen.push ne)).length)
   case measure => have := HM.out; have := unseen_push he; simp at *; omega
   case rel =>
    have s1 := HF1.out.size
    have f1 : Fr w (W.alloc (Obj.cells #[Value.bool be] 251)).drew [] := ((HFr.out.trans HFW.out (by intro i hi; simp at hi; omega)).alloc _).drew
    refine ⟨seen.push ne, put cs ke be clk2, putClk cs ke clk2, ⟨Nat.le_refl _⟩, ⟨f1.trans HF2.out (by intro i hi; simp at hi; omega)⟩, ⟨HF2.out.blk (blk_drew (blk_alloc HIW.out _)) (by simp; omega)⟩, ⟨HF2.out.blk (blk_drew (blk_alloc HSt2.out.blk _)) (by simp), (HSt2.out.row.alloc _).drew.fr HF2.out (by simpa using HSt2.out.row.neMap HSt2.out.mp), HM2.out, HSt2.out.good.put ke be⟩, ⟨fun k => ?_⟩⟩
    rw [look_put, look_seen HS0.out.good (List.mem_filter.1 he).1, HLk.out k]
theorem wpl_ins {ops : Array Oper} {rest : List Oper} {o : Oper} {a : Act} {Q : Exit → Act → World → Prop} {w : World} {es : Es Bool} {clk r : Nat} {kk : Int} {b : Bool} {m k x : Operand} (hg : o.guard = none) (ho : o.op = .insert 210 m k x) (hm : a.eval m = .map (some r)) (hk : a.eval k = .int .i64 kk) (hx : a.eval x = .agg #[.bool b]) (hb : w.heap[r]? = some (obj encB es clk))
  (h : ∀ W2, Fr w W2 [r] → W2.heap[r]? = some (obj encB (put es kk b clk) (putClk es kk clk)) → wpList Tryz.prog ops Q rest (a.put o.dst undef) W2) : wpList Tryz.prog ops Q (o :: rest) a w := by
 obtain ⟨W2, hr, h1, h2⟩ := put_run hb kk b
 refine wpl_skip hg ?_ (h W2 h1 h2)
 unfold execOp
 simp only [ho, hm, hk, hx, hr, Sem.run_bind, Sem.run_map, Result.andThen, Sem.run_pure]
theorem look_run {w : World} {es : Es Bool} {clk r : Nat} (kk : Int) (hb : w.heap[r]? = some (obj encB es clk)) :
  (Instr.lookup 210 (.map (some r)) (.int .i64 kk) true).run Tryz.prog w = .ok (.tuple #[.agg #[.bool ((look es kk).getD false)], .bool (look es kk).isSome]) w := by
 have hz : (zeroValue 251).run Tryz.prog w = .ok (.agg #[.bool false]) w := by kernel_rfl
 have hr := run_look (enc := encB) (k := kk) (.agg #[.bool false]) Tryz.underlying210 Tryz.underlying3 hz hb
 rw [hr]
 cases look es kk <;> rfl
theorem exec_look {o : Oper} {a : Act} {w : World} {es : Es Bool} {clk r : Nat} {kk : Int} {m k : Operand} (ho : o.op = .lookup 210 m k true) (hm : a.eval m = .map (some r)) (hk : a.eval k = .int .i64 kk) (hb : w.heap[r]? = some (obj encB es clk)) :
  (execOp a.eval o).run Tryz.prog w = .ok (.value (.tuple #[.agg #[.bool ((look es kk).getD false)], .bool (look es kk).isSome])) w := by
 have hz : (zeroValue 251).run Tryz.prog w = .ok (.agg #[.bool false]) w := by kernel_rfl
 have hr := run_look (enc := encB) (k := kk) (.agg #[.bool false]) Tryz.underlying210 Tryz.underlying3 hz hb
 unfold execOp
 simp only [ho, hm, hk, Sem.run_bind, Sem.run_map, hr, Result.andThen, Sem.run_pure]
 cases look es kk <;> rfl
theorem wpl_look {ops : Array Oper} {rest : List Oper} {o : Oper} {a : Act} {Q : Exit → Act → World → Prop} {w : World} {es : Es Bool} {clk r : Nat} {kk : Int} (m k : Operand) (hg : o.guard = none) (ho : o.op = .lookup 210 m k true) (hm : a.eval m = .map (some r)) (hk : a.eval k = .int .i64 kk) (hb : w.heap[r]? = some (obj encB es clk))
  (hK : wpList Tryz.prog ops Q rest (a.put o.dst (.tuple #[.agg #[.bool ((look es kk).getD false)], .bool (look es kk).isSome])) w) : wpList Tryz.prog ops Q (o :: rest) a w :=
 wpl_val hg (exec_look ho hm hk hb) hK
def wantsEs : Es Bool := [5, 28, 9, 10, 11, 13, 14, 16, 17, 12, 15, 18, 19, 20, 21, 22, 23, 24, 25, 27].zipIdx.map fun p => ((p.1 : Int), decide (p.1 = 25 ∨ p.1 = 27), p.2)
theorem wants_calls (w : World) (G : TabW w) : Calls Tryz.prog 159 #[] w fun e w' => ∃ r, e = .returned (.map (some r)) ∧ Fr w w' [] ∧ w'.heap[r]? = some (obj encB wantsEs 20) ∧ w.heap.size ≤ r := by
 have h1 : 2 < w.heap.size := by have := G.lt; omega
 have h2 : 3 < w.heap.size := by have := G.lt; omega
 have HT := AsM G
 have g0 := G.num
 have g2 := G.tru
 clear G
 have hu := Tryz.underlying251
 have hmm := @run_makeMap Tryz.prog
 have HF := AsM (Fr.alloc (Fr.refl w []) (Obj.map #[] 0))
 have HM : Aside0 ((w.alloc (Obj.map #[] 0)).heap[w.heap.size]? = some (obj encB [] 0)) := ⟨heap_alloc_new _ _⟩
 go_enter Tryz.func159, Tryz.ntmps159
 go_wp2_with (first | ((refine wpl_ins rfl rfl rfl rfl rfl HM.out ?_); intro W2 hF2 hM2; have HF' := AsM (HF.out.trans hF2 (by simp)); clear HF HM g0 g2; have HF := HF'; clear HF'; have HM := AsM hM2; have HT' := HT.out.fr0 HF.out; have g0 := HT'.num; have g2 := HT'.tru; clear hF2 hM2 HT'))
 go_ret
 exact ⟨_, rfl, HF.out, by have := HM.out; exact this, Nat.le_refl _⟩
end Go.Proofs.YtpoehkacfmljcaaGreatDoor.H
