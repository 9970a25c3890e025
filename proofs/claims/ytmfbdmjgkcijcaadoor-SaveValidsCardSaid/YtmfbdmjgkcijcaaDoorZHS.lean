/- The verifier's stack: pop, push. -/
import Derived.Test.YtmfbdmjgkcijcaaDoorZV
import Derived.Test.YtmfbdmjgkcijcaaDoorZHM
import Derived.Deep.RegionLaw
namespace Go.Proofs.YtmfbdmjgkcijcaaDoor.H
open Go.RowKit Go.Proofs.YtmfbdmjgkcijcaaDoorW.PrintWords Go.Proofs.YtmfbdmjgkcijcaaDoorW.PrintLast Go.Proofs.YtmfbdmjgkcijcaaDoorW.PrintMore
open Go.ChangeMaps (setBlock)
attribute [local go_sem] max2_int min2_int max_two min_two max_three min_three max_four min_four
set_option linter.unusedVariables false
set_option linter.unusedSimpArgs false

def encB (b : Bool) : Value := .agg #[.bool b]
/-- A row of sorts of the call's own. -/
def Bs (w : World) (v : Value) (xs : List Bool) : Prop := w.ownsRow 0 137 1 v xs.length (bools xs)
theorem Bs.move {w w' : World} {v : Value} {xs : List Bool} (h : Bs w v xs) (hm : ∀ k, v.ownBlock = some k → w'.heap[k]? = w.heap[k]?) : Bs w' v xs := own_move h hm
theorem Bs.lt {w : World} {v : Value} {xs : List Bool} (h : Bs w v xs) : ∀ k, v.ownBlock = some k → k < w.heap.size := fun k hk => own_lt h k hk
theorem Bs.fr {w w' : World} {v : Value} {xs : List Bool} {L : List Nat} (h : Bs w v xs) (hf : Fr w w' L) (hn : ∀ k, v.ownBlock = some k → k ∉ L) : Bs w' v xs := h.move fun k hk => hf.block k (h.lt k hk) (hn k hk)
theorem Bs.form {w : World} {v : Value} {xs : List Bool} {x : Bool} (h : Bs w v (xs ++ [x])) : ∃ g cap, v = .slice (some ⟨g, 0, none⟩) (xs.length + 1) cap ∧ xs.length + 1 ≤ cap ∧ cap ≤ maxLen ∧ w.cell? ⟨g, xs.length, none⟩ = some (.bool x) ∧ (∃ cs, w.heap[g]? = some (.cells cs 137 (0, 0))) ∧ Bs w (.slice (some ⟨g, 0, none⟩) xs.length cap) xs := by
  obtain ⟨h1, h2⟩ := h
  rcases h2 with ⟨_, h2⟩ | ⟨g, cap, cur, rfl, hb, hg, hn, hm, hs, ht⟩
  · simp at h2
  · simp only [List.length_append, List.length_cons, List.length_nil, Nat.zero_add, Nat.mul_one] at *
    have e : cur.toList.take (xs.length + 1) = bools xs ++ [.bool x] := by rw [ht]; simp [bools]
    have hc : cur[xs.length]? = some (.bool x) := by
      have h3 : (cur.toList.take (xs.length + 1))[xs.length]? = some (.bool x) := by rw [e]; simp [bools]
      rw [List.getElem?_take] at h3
      simpa using h3
    refine ⟨g, cap, rfl, hn, hm, by rw [cell_of_row w g xs.length cur 137 _ hg]; exact hc, ⟨cur, hg⟩, by simp [bools], .inr ⟨g, cap, cur, rfl, hb, hg, by omega, hm, by rw [hs, Nat.mul_one], ?_⟩⟩
    rw [Nat.mul_one]
    have h4 : (cur.toList.take (xs.length + 1)).take xs.length = bools xs := by rw [e]; simp [bools]
    rw [List.take_take] at h4
    simpa using h4

set_option maxHeartbeats 4000000 in
set_option maxRecDepth 100000 in
theorem pop_calls (p : Nat) (v m : Value) (xs : List Bool) (x : Bool) (w : World) (hp : w.heap[p]? = some (.cells #[v, m] 115 (0, 0))) (hv : Bs w v (xs ++ [x])) :
    Calls Tryd.prog 74 #[.pointer (some ⟨p, 0, none⟩)] w fun e w' => ∃ v', e = .returned (encB x) ∧ Fr w w' [p] ∧ w'.heap[p]? = some (.cells #[v', m] 115 (0, 0)) ∧ Bs w' v' xs ∧ v'.ownBlock = v.ownBlock := by
  obtain ⟨g, cap, rfl, hcap, hcap2, hx, ⟨cs, hg⟩, hv'⟩ := hv.form
  have hlt := blk_lt hp
  have hglt := blk_lt hg
  have c0 := blk_cell hp 0
  have z0 := blk_frozen hp 0
  have hne : g ≠ p := fun e => by subst e; rw [hg] at hp; simp at hp
  have HF := Aside0.mk hp
  have HV := Aside0.mk hv'
  have hl : xs.length + 1 ≤ 9223372036854775807 := by unfold maxLen at hcap2; omega
  clear hp hv hv' hg
  go_enter Tryd.func74, Tryd.ntmps74
  go_wp2
  go_region
  go_wp2
  go_region
  go_wp2
  refine bodyPost_ret (results_cell_row rfl _ _ w.heap.size 137 #[.bool x] (0, 0) _ rfl (blk_drew (blk_drew (blk_alloc (blk_newN (by simp [World.setCell])) _))) Tryd.underlying137 rfl rfl) rfl ?_
  have hf : Fr w (((w.setCell { block := p, off := 0 } (Value.slice (some { block := g, off := 0 }) xs.length cap)).alloc (Obj.cells #[Value.bool x] 137)).alloc (Obj.cells #[Value.bool x] 137)).drew.drew [p] := by (with_reducible (repeat (first | refine Fr.drew ?_ | refine Fr.drewN ?_ _ | refine Fr.alloc ?_ _ | refine Fr.setCell ?_ _ _ ?_))) <;> first | exact Fr.refl _ _ | simp
  exact ⟨_, rfl, hf, blk_drew (blk_drew (blk_alloc (blk_alloc (blk_set HF.out 0 _) _) _)), HV.out.fr hf (by simpa [Value.ownBlock] using hne), rfl⟩

theorem info137 : (Tryd.prog.info? 137).map (fun i => (i.zero, i.size, i.bytes)) = some (some (.agg #[.bool false]), 1, 1) := by kernel_rfl
set_option maxRecDepth 100000 in
/-- append of a row of sorts. -/
theorem run_app (W : World) (v : Value) (xs ys : List Bool) (ty : TypeId) (A : Option Addr) (m c : Nat) (HO : Bs W v xs) (HR : ReadsOf Value.bool false W A m ys) (hl : xs.length + m ≤ 140737488355328) :
    ∃ v1 w1, (Builtin.append_ #[111, 111] ty #[v, .slice A m c]).run Tryd.prog W = .ok v1 w1 ∧ Bs w1 v1 (xs ++ ys) ∧ W.grownBy w1 v.ownBlock ∧ (v1.ownBlock = v.ownBlock ∨ v1.ownBlock = some W.heap.size) := by
  obtain ⟨i0, hi, hzz⟩ := Option.map_eq_some_iff.1 info137
  simp only [Prod.mk.injEq] at hzz
  obtain ⟨hz0, hz1, hz2⟩ := hzz
  have hm : ys.length = m := HR.1
  have ht := Tryd.underlying111
  rcases A with _ | ad
  · have h0 : m = 0 := by
      rcases Nat.eq_zero_or_pos m with h0 | h0
      · exact h0
      · obtain ⟨ad, h, _⟩ := HR.2.2 h0
        cases h
    subst h0
    obtain rfl : ys = [] := List.eq_nil_of_length_eq_zero hm
    refine ⟨v, W, ?_, by simpa using HO, World.grownBy.refl W _, .inl rfl⟩
    rcases HO.2 with ⟨rfl, hn⟩ | ⟨g, cap, cur, rfl, _, _, hnc, _⟩
    · simp [Builtin.append_, run_underlying ht, sizeOf, typeInfo, hi, Builtin.lenOf, Builtin.firstCells]
    · simp [Builtin.append_, run_underlying ht, sizeOf, typeInfo, hi, Builtin.lenOf, Builtin.firstCells, hnc, storeCells]
  · have hcells : ∀ j u, (bools ys)[j]? = some u → W.cell? (ad.add j) = some u := by
      intro j u hu
      have hj : j < ys.length := by
        rcases Nat.lt_or_ge j ys.length with h | h
        · exact h
        · simp [bools, List.getElem?_eq_none h] at hu
      obtain ⟨ad', h', hc⟩ := HR.2.2 (by omega)
      injection h' with h'
      subst h'
      have he := encs_get (enc := Value.bool) (d := false) ys j hj
      rw [show encs Value.bool ys = bools ys from rfl, hu] at he
      rw [he]
      exact hc j (by omega)
    obtain ⟨v1, w1, hr, h2, h3, _, h5⟩ := run_append_own_at (P := Tryd.prog) W 0 111 ty 137 i0 _ 1 1 ht hi hz0 hz1 hz2 rfl (by omega) v xs.length (bools xs) HO ad m c (bools ys) (by simp [bools, hm]) hcells
      (by intro u hu; simp only [bools, List.mem_map] at hu; obtain ⟨q, _, rfl⟩ := hu; rfl) (by simp only [maxLen]; omega) (by omega) (Nat.zero_le _)
    exact ⟨v1, w1, hr, by simpa [Bs, bools, hm] using h2, h3, h5⟩
section
variable {ops : Array Oper} {o : Oper} {a : Act} {Q : Exit → Act → World → Prop} {K : Act → World → Prop} {E : Prop} {W : World}
theorem step_app (s x : Operand) (hg0 : o.guard = none) (ho : o.op = .call { callee := .builtin .append, args := #[s, x], argTypes := #[111, 111] }) (v : Value) (xs : List Bool) (b : Bool) (ad : Addr) (hs : a.eval s = v) (hx : a.eval x = .slice (some ad) 1 1) (HO : Bs W v xs) (hc : W.cell? ad = some (.bool b)) (hl : xs.length + 1 ≤ 140737488355328)
    (h : ∀ v1 w1, Bs w1 v1 (xs ++ [b]) → W.grownBy w1 v.ownBlock → (v1.ownBlock = v.ownBlock ∨ v1.ownBlock = some W.heap.size) → K (a.put o.dst v1) w1) : if Region.wanted o (yielded ops a.tmps) = true then Oper.wp Tryd.prog o a W K Q else E := by
  obtain ⟨v1, w1, hr, h1, h2, h3⟩ := run_app W v xs [b] o.type (some ad) 1 1 HO ⟨rfl, by simp, fun _ => ⟨ad, rfl, fun j hj => by
    obtain rfl : j = 0 := by omega
    simpa [Addr.add] using hc⟩⟩ hl
  exact step_val hg0 (exec_append ho hs hx hr) (h v1 w1 h1 h2 h3)
end
theorem Fr.grown {a w w1 : World} {L : List Nat} {row : Option Nat} (h : Fr a w L) (hg : w.grownBy w1 row) (hr : ∀ k, row = some k → k ∈ L ∨ a.heap.size ≤ k) : Fr a w1 L :=
  h.trans (M := row.toList) ⟨hg.os, hg.tape, hg.output, hg.size, fun k hk hn => hg.block k hk (fun e => hn (by simp [← e]))⟩ (fun i hi => hr i (by simpa using hi))
theorem at_grown {w w1 : World} {g : Nat} {o : Obj} {row : Option Nat} (h : w.heap[g]? = some o) (hg : w.grownBy w1 row) (hne : row ≠ some g) : w1.heap[g]? = some o := (hg.block g (blk_lt h) (fun e => hne e.symm)).trans h
theorem Bs.ne {w : World} {v : Value} {xs : List Bool} (h : Bs w v xs) {g : Nat} {cs : Array Value} {t : TypeId} (hg : w.heap[g]? = some (.cells cs t (0, 0))) (ht : t ≠ 137) : v.ownBlock ≠ some g := fun e => by
  obtain ⟨cells, hc⟩ := own_typed h g e
  rw [hg] at hc
  simp at hc
  exact ht hc.2
theorem Bs.slice {w : World} {v : Value} {xs : List Bool} (h : Bs w v xs) : ∃ A c, v = .slice A xs.length c ∧ ReadsOf Value.bool false w A xs.length xs := own_reads_of (enc := Value.bool) h
set_option maxHeartbeats 4000000 in
set_option maxRecDepth 100000 in
theorem push_calls (p : Nat) (v m : Value) (xs : List Bool) (x : Bool) (w : World) (hp : w.heap[p]? = some (.cells #[v, m] 115 (0, 0))) (hv : Bs w v xs) (hl : xs.length + 1 ≤ 140737488355328) :
    Calls Tryd.prog 75 #[.pointer (some ⟨p, 0, none⟩), encB x] w fun e w' => ∃ v', e = .returned (.tuple #[]) ∧ Fr w w' (p :: v.ownBlock.toList) ∧ w'.heap[p]? = some (.cells #[v', m] 115 (0, 0)) ∧ Bs w' v' (xs ++ [x]) ∧ (v'.ownBlock = v.ownBlock ∨ ∃ g, v'.ownBlock = some g ∧ w.heap.size ≤ g) := by
  obtain ⟨A, c, rfl, hr⟩ := hv.slice
  have hlt := blk_lt hp
  have c0 := blk_cell hp 0
  have z0 := blk_frozen hp 0
  have HF := Aside0.mk hp
  have HV := Aside0.mk hv
  have HN := Aside0.mk (hv.ne hp (by decide))
  clear hp hv hr
  show Calls Tryd.prog 75 #[.pointer (some ⟨p, 0, none⟩), .agg #[.bool x]] w _
  go_enter Tryd.func75, Tryd.ntmps75
  go_wp2
  go_region_law (refine step_app (.tmp 8) (.tmp 10) rfl rfl (.slice A xs.length c) xs x _ rfl rfl (HV.out.fr (L := []) (by (with_reducible (repeat (first | refine Fr.drew ?_ | refine Fr.drewN ?_ _ | refine Fr.alloc ?_ _ | refine Fr.setCell ?_ _ _ ?_))) <;> first | exact Fr.refl _ _ | simp) (by simp)) (by simp) hl ?_; intro v1 w1 hB1 hg1 hat1; obtain ⟨A1, cp1, rfl, _⟩ := hB1.slice; have hp1 := Aside0.mk (at_grown (by (with_reducible (repeat (first | apply blk_drew | apply blk_alloc | apply blk_set))); exact HF.out) hg1 HN.out); have hf1 := Aside0.mk (Fr.grown (a := w) (L := p :: (Value.slice A xs.length c).ownBlock.toList) (by (with_reducible (repeat (first | refine Fr.drew ?_ | refine Fr.drewN ?_ _ | refine Fr.alloc ?_ _ | refine Fr.setCell ?_ _ _ ?_))) <;> first | exact Fr.refl _ _ | simp) hg1 (fun k hk => .inl (by simp [hk]))); have c1 := blk_cell hp1.out 0; have z1 := blk_frozen hp1.out 0; have HB1 := Aside0.mk hB1; have HA1 := Aside0.mk hat1; clear c0 z0 hB1 hg1 hat1)
  all_goals (
    go_end0
    have hne := HB1.out.ne hp1.out (by decide)
    exact ⟨_, rfl, Fr.setCell hf1.out _ _ (.inl (by simp)), blk_to (blk_set hp1.out 0 _) (by simp), by have := HB1.out.move (w' := w1.setCell { block := p, off := 0 } (Value.slice A1 (xs.length + 1) cp1)) (fun k hk => Below.heap_setCell _ _ _ _ (fun e => hne (hk.trans (congrArg some e)))); simpa using this, HA1.out.imp id (fun e => ⟨_, e, by simp; omega⟩)⟩)
section
variable {ops : Array Oper} {rest : List Oper} {o : Oper} {a : Act} {Q : Exit → Act → World → Prop} {W : World}
theorem wpl_app (s x : Operand) (hg0 : o.guard = none) (ho : o.op = .call { callee := .builtin .append, args := #[s, x], argTypes := #[111, 111] }) (v : Value) (xs ys : List Bool) (A : Option Addr) (m c : Nat) (hs : a.eval s = v) (hx : a.eval x = .slice A m c) (HO : Bs W v xs) (HR : ReadsOf Value.bool false W A m ys) (hl : xs.length + m ≤ 140737488355328)
    (h : ∀ v1 w1, Bs w1 v1 (xs ++ ys) → W.grownBy w1 v.ownBlock → (v1.ownBlock = v.ownBlock ∨ v1.ownBlock = some W.heap.size) → wpList Tryd.prog ops Q rest (a.put o.dst v1) w1) : wpList Tryd.prog ops Q (o :: rest) a W := by
  obtain ⟨v1, w1, hr, h1, h2, h3⟩ := run_app W v xs ys o.type A m c HO HR hl
  exact wpl_val hg0 (exec_append ho hs hx hr) (h v1 w1 h1 h2 h3)
end
theorem wpl_nextB {ops : Array Oper} {rest : List Oper} {o : Oper} {a : Act} {Q : Exit → Act → World → Prop} {w : World} {es : Es Bool} {clk r : Nat} (it : Operand) {i : Nat} {seen : Array Nat} (hg : o.guard = none) (ho : o.op = .next it false) (hit : a.eval it = .pointer (some ⟨i, 0, none⟩)) (hi : w.heap[i]? = some (.mapIter (some r) clk seen clk)) (hb : w.heap[r]? = some (obj encB es clk)) (g : Good es clk)
    (hDone : unseen es seen = [] → wpList Tryd.prog ops Q rest (a.put o.dst (.tuple #[.bool false])) w)
    (hMore : ∀ (k : Int) (b : Bool) (n : Nat), (k, b, n) ∈ unseen es seen → ∀ W : World, Fr w W [i] → W.heap[i]? = some (.mapIter (some r) clk (seen.push n) clk) → (Instr.entry (.pointer (some ⟨i, 0, none⟩))).run Tryd.prog W = .ok (.tuple #[.int .i64 k, .agg #[.bool b]]) W → wpList Tryd.prog ops Q rest (a.put o.dst (.tuple #[.bool true, .int .i64 k, .agg #[.bool b]])) W) : wpList Tryd.prog ops Q (o :: rest) a w :=
  wpl_next it hg ho hit hi hb g hDone fun e he W h1 _ h3 h4 => hMore e.1 e.2.1 e.2.2 he W h1 h3 h4
theorem fr_block {w : World} {r : Nat} {o : Obj} {o' : Obj} (hb : w.heap[r]? = some o) : Fr w (setBlock w r o') [r] ∧ (setBlock w r o').heap[r]? = some o' := by
  have hlt := (Array.getElem?_eq_some_iff.1 hb).1
  refine ⟨⟨rfl, rfl, rfl, by simp [setBlock], fun k hk hn => ?_⟩, by simp [setBlock, hlt]⟩
  simp only [setBlock]
  rw [Array.getElem?_setIfInBounds_ne (by simpa [eq_comm] using hn)]
theorem put_run {w : World} {r : Nat} {es : Es Bool} {clk : Nat} (hb : w.heap[r]? = some (obj encB es clk)) (k : Int) (b : Bool) : ∃ W2, (Instr.mapUpdate 110 (.map (some r)) (.int .i64 k) (.agg #[.bool b])).run Tryd.prog w = .ok () W2 ∧ Fr w W2 [r] ∧ W2.heap[r]? = some (obj encB (put es k b clk) (putClk es k clk)) :=
  ⟨_, run_put (enc := encB) b Tryd.underlying110 Tryd.underlying3 hb, fr_block hb⟩
theorem del_run {w : World} {r : Nat} {es : Es Bool} {clk : Nat} (hb : w.heap[r]? = some (obj encB es clk)) (k : Int) : ∃ W2, (∀ ty, (Builtin.delete_ #[110, 3] ty #[.map (some r), .int .i64 k]).run Tryd.prog w = .ok (.tuple #[]) W2) ∧ Fr w W2 [r] ∧ W2.heap[r]? = some (obj encB (del es k) clk) :=
  ⟨_, fun ty => run_del (enc := encB) Tryd.underlying110 Tryd.underlying3 hb ty, fr_block hb⟩
theorem Bs.empty (W : World) : Bs (W.alloc (.cells #[] 137)) (.slice (some ⟨W.heap.size, 0, none⟩) 0 0) [] := World.ownsRow_made W #[] 0 (Nat.zero_le _) (by simp [maxLen]) rfl
/-- A state of the verifier in memory: the block p, its row of sorts v, its map r. -/
structure St (w : World) (p : Nat) (v : Value) (r : Nat) (xs : List Bool) (es : Es Bool) (clk : Nat) : Prop where
  blk : w.heap[p]? = some (.cells #[v, .map (some r)] 115 (0, 0))
  row : Bs w v xs
  mp : w.heap[r]? = some (obj encB es clk)
  good : Good es clk
theorem Bs.alloc {w : World} {v : Value} {xs : List Bool} (h : Bs w v xs) (o : Obj) : Bs (w.alloc o) v xs := h.move fun k hk => Below.heap_alloc w o k (h.lt k hk)
theorem Bs.drew {w : World} {v : Value} {xs : List Bool} (h : Bs w v xs) : Bs w.drew v xs := h.move fun _ _ => rfl
theorem Bs.drewN {w : World} {v : Value} {xs : List Bool} (h : Bs w v xs) (n : Nat) : Bs (w.drewN n) v xs := h.move fun _ _ => rfl
theorem St.fr {w w' : World} {p r clk : Nat} {v : Value} {xs : List Bool} {es : Es Bool} {L : List Nat} (h : St w p v r xs es clk) (hf : Fr w w' L) (h1 : p ∉ L) (h2 : r ∉ L) (h3 : ∀ k, v.ownBlock = some k → k ∉ L) : St w' p v r xs es clk :=
  ⟨hf.blk h.blk h1, h.row.fr hf h3, hf.blk h.mp h2, h.good⟩
theorem St.new {w w' : World} {p r clk : Nat} {v : Value} {xs : List Bool} {es : Es Bool} (h : St w p v r xs es clk) (hf : Fr w w' []) : St w' p v r xs es clk := h.fr hf (by simp) (by simp) (by simp)
theorem Bs.neIt {w : World} {v : Value} {xs : List Bool} (h : Bs w v xs) {g : Nat} {m : Option Nat} {a : Nat} {b : Array Nat} {c : Nat} (hg : w.heap[g]? = some (.mapIter m a b c)) : ∀ k, v.ownBlock = some k → k ≠ g := fun k hk e => by
  subst e
  obtain ⟨cells, hc⟩ := own_typed h k hk
  rw [hg] at hc
  cases hc
theorem Bs.neMap {w : World} {v : Value} {xs : List Bool} (h : Bs w v xs) {g : Nat} {es : Es Bool} {c : Nat} (hg : w.heap[g]? = some (obj encB es c)) : ∀ k, v.ownBlock = some k → k ≠ g := fun k hk e => by
  subst e
  obtain ⟨cells, hc⟩ := own_typed h k hk
  rw [hg] at hc
  cases hc
end Go.Proofs.YtmfbdmjgkcijcaaDoor.H
