/- twin: a state of its own. -/
import Derived.Test.YtmfbdmjgkcijcaaDoorZV
import Derived.Test.YtmfbdmjgkcijcaaDoorZHS
import Derived.Test.YtmfbdmjgkcijcaaDoorZHB
namespace Go.Proofs.YtmfbdmjgkcijcaaDoor.H
open Go.RowKit Go.Proofs.YtmfbdmjgkcijcaaDoorW.PrintWords Go.Proofs.YtmfbdmjgkcijcaaDoorW.PrintLast Go.Proofs.YtmfbdmjgkcijcaaDoorW.PrintMore
open Go.ChangeMaps (setBlock)
attribute [local go_sem] max2_int min2_int max_two min_two max_three min_three max_four min_four
set_option linter.unusedVariables false
set_option linter.unusedSimpArgs false
theorem St.ne_pr {w : World} {p r clk : Nat} {v : Value} {xs : List Bool} {es : Es Bool} (h : St w p v r xs es clk) : p ≠ r := fun e => by
  have h1 := h.blk
  rw [e, h.mp] at h1
  simp [obj] at h1
theorem St.popped {w w' : World} {p r clk : Nat} {v v' : Value} {xs xs' : List Bool} {es : Es Bool} (h : St w p v r xs es clk) (hf : Fr w w' [p]) (hb : w'.heap[p]? = some (.cells #[v', .map (some r)] 115 (0, 0))) (hr : Bs w' v' xs') : St w' p v' r xs' es clk :=
  ⟨hb, hr, hf.blk h.mp (by simpa using Ne.symm h.ne_pr), h.good⟩
theorem St.drew {w : World} {p r clk : Nat} {v : Value} {xs : List Bool} {es : Es Bool} (h : St w p v r xs es clk) : St w.drew p v r xs es clk := ⟨h.blk, h.row.drew, h.mp, h.good⟩
theorem St.pushed {w w' : World} {p r clk : Nat} {v v' : Value} {xs xs' : List Bool} {es : Es Bool} (h : St w p v r xs es clk) (hf : Fr w w' (p :: v.ownBlock.toList)) (hb : w'.heap[p]? = some (.cells #[v', .map (some r)] 115 (0, 0))) (hr : Bs w' v' xs') : St w' p v' r xs' es clk :=
  ⟨hb, hr, hf.blk h.mp (by
    intro hm
    rcases List.mem_cons.1 hm with h1 | h1
    · exact h.ne_pr h1.symm
    · exact h.row.neMap h.mp r (by simpa using h1) rfl), h.good⟩
theorem Fr.set (w : World) (p : Addr) (u : Value) : Fr w (w.setCell p u) [p.block] := (Fr.refl w [p.block]).setCell p u (.inl (by simp))
set_option maxHeartbeats 4000000 in
set_option maxRecDepth 100000 in
theorem twin_calls (p r clk : Nat) (v : Value) (xs : List Bool) (es : Es Bool) (w : World) (hs : St w p v r xs es clk) (hl : xs.length ≤ 140737488355328) :
    Calls Tryd.prog 48 #[.pointer (some ⟨p, 0, none⟩)] w fun e w' => ∃ q v' r' es' clk', e = .returned (.pointer (some ⟨q, 0, none⟩)) ∧ Fr w w' [] ∧ St w' q v' r' xs es' clk' ∧ (∀ k, look es' k = look es k) ∧ w.heap.size ≤ q ∧ w.heap.size ≤ r' ∧ (∀ g, v'.ownBlock = some g → w.heap.size ≤ g) := by
  obtain ⟨A, c, rfl, hr⟩ := hs.row.slice
  have hlt := blk_lt hs.blk
  have c0 := blk_cell hs.blk 0
  have c1 := blk_cell hs.blk 1
  have HS0 := Aside0.mk hs
  have HR0 := Aside0.mk hr
  clear hs hr
  have hmm := @run_makeMap Tryd.prog
  go_enter Tryd.func48, Tryd.ntmps48
  go_wp2_with (first | (at_builtin; refine wpl_app (.tmp 6) (.tmp 11) rfl rfl (.slice (some ⟨w.heap.size, 0, none⟩) 0 0) [] xs A xs.length c rfl rfl (Bs.empty w) (HR0.out.below (below_alloc (Below.refl _ _) _)) (by simpa using hl) ?_; intro v1 w1 hB1 hg1 hat1; obtain ⟨A1, cp1, rfl, _⟩ := hB1.slice; have HF1 := Aside0.mk (Fr.grown (Fr.alloc (Fr.refl w []) _) hg1 (by simp [Value.ownBlock])); have HB1 := Aside0.mk hB1; have c01 := blk_cell (HF1.out.blk HS0.out.blk (by simp)) 0; have c11 := blk_cell (HF1.out.blk HS0.out.blk (by simp)) 1; have hlt1 : p < w1.heap.size := Nat.lt_of_lt_of_le hlt HF1.out.size; have HA1 : Aside0 (∀ g, (Value.slice A1 ([] ++ xs).length cp1).ownBlock = some g → w.heap.size ≤ g) := ⟨by intro g hg; rcases hat1 with h | h <;> rw [h] at hg <;> simp [Value.ownBlock] at hg <;> omega⟩; clear hB1 hg1 c0 c1 hat1) | (at_range; refine wpl_range (.tmp 20) (w1.heap.size + 1 + 1) (by simp) rfl rfl Tryd.underlying110 rfl (blk_alloc (blk_alloc (HF1.out.blk HS0.out.mp (by simp)) _) _) ?_))
  go_frame
  go_loopg [] ((unseen es #[]).length) (fun kq wr => ∃ (seen : Array Nat) (cs : Es Bool) (clk2 : Nat), Aside0 ((unseen es seen).length ≤ kq) ∧ Aside0 (Fr w wr []) ∧ Aside0 (wr.heap[w1.heap.size + 1 + 1]? = some (.mapIter (some r) clk seen clk)) ∧ Aside0 (St wr (w1.heap.size + 1) (.slice A1 xs.length cp1) w1.heap.size xs cs clk2) ∧ Aside0 (∀ k, look cs k = look (es.filter fun x => seen.contains x.2.2) k))
  case atStart => exact ⟨#[], [], 0, ⟨Nat.le_refl _⟩, ⟨(by (with_reducible (repeat (first | refine Fr.drew ?_ | refine Fr.drewN ?_ _ | refine Fr.alloc ?_ _ | refine Fr.setCell ?_ _ _ ?_))) <;> first | exact Fr.refl _ _ | exact HF1.out | simp)⟩, ⟨blk_newN (by simp)⟩, ⟨blk_alloc (blk_newN (by simp)) _, by have := ((HB1.out.alloc (Obj.map #[] 0)).alloc (Obj.cells #[Value.slice A1 xs.length cp1, Value.map (some w1.heap.size)] 115)).alloc (.mapIter (some r) clk #[] clk); simpa using this, blk_alloc (blk_alloc (blk_newN rfl) _) _, Good.nil⟩, ⟨fun k => by rw [List.filter_eq_nil_iff.2 (by simp)]⟩⟩
  case round =>
    obtain ⟨seen, cs, clk2, HM, HFr, HIt, HSt, HLk⟩ := hrel
    go_wp2_with (first | (at_next; refine wpl_nextB (.tmp 21) rfl rfl rfl HIt.out (HFr.out.blk HS0.out.mp (by simp)) HS0.out.good (fun hd => ?_) (fun ke be ne he W hFW hitW hen => ?_)))
    · go_ret
      have hLk := HLk.out
      rw [look_all hd] at hLk
      have := HF1.out.size
      exact ⟨_, _, _, cs, clk2, rfl, HFr.out, HSt.out, hLk, by omega, by omega, by simpa using HA1.out⟩
    · have HIW := Aside0.mk hitW
      have HFW := Aside0.mk hFW
      have HSt2 := Aside0.mk (HSt.out.fr hFW (by simp) (by simp; omega) (by simpa using HSt.out.row.neIt HIt.out))
      obtain ⟨W2, hmu, hF2, hm2⟩ := put_run (w := (W.alloc (Obj.cells #[Value.bool be] 137)).drew) (blk_drew (blk_alloc HSt2.out.mp _)) ke be
      have HF2 := Aside0.mk hF2
      have HM2 := Aside0.mk hm2
      have hq1 := blk_cell HSt2.out.blk 1
      have hqlt := blk_lt HSt2.out.blk
      clear hFW hitW hen hF2 hm2
      go_region
      go_wp2
      go_roundg ((unseen es (seen.push ne)).length)
      case measure => have := HM.out; have := unseen_push he; simp at *; omega
      case rel =>
        have s1 := HF1.out.size
        have f1 : Fr w (W.alloc (Obj.cells #[Value.bool be] 137)).drew [] := ((HFr.out.trans HFW.out (by intro i hi; simp at hi; omega)).alloc _).drew
        refine ⟨seen.push ne, put cs ke be clk2, putClk cs ke clk2, ⟨Nat.le_refl _⟩, ⟨f1.trans HF2.out (by intro i hi; simp at hi; omega)⟩, ⟨HF2.out.blk (blk_drew (blk_alloc HIW.out _)) (by simp; omega)⟩, ⟨HF2.out.blk (blk_drew (blk_alloc HSt2.out.blk _)) (by simp), (HSt2.out.row.alloc _).drew.fr HF2.out (by simpa using HSt2.out.row.neMap HSt2.out.mp), HM2.out, HSt2.out.good.put ke be⟩, ⟨fun k => ?_⟩⟩
        rw [look_put, look_seen HS0.out.good (List.mem_filter.1 he).1, HLk.out k]
end Go.Proofs.YtmfbdmjgkcijcaaDoor.H
namespace Go.Proofs.YtmfbdmjgkcijcaaDoor.H
open Go.RowKit Go.Proofs.YtmfbdmjgkcijcaaDoorW.PrintWords Go.Proofs.YtmfbdmjgkcijcaaDoorW.PrintLast Go.Proofs.YtmfbdmjgkcijcaaDoorW.PrintMore
open Go.ChangeMaps (setBlock)
attribute [local go_sem] max2_int min2_int max_two min_two max_three min_three max_four min_four
set_option linter.unusedVariables false
set_option linter.unusedSimpArgs false
theorem wpl_ins {ops : Array Oper} {rest : List Oper} {o : Oper} {a : Act} {Q : Exit → Act → World → Prop} {w : World} {es : Es Bool} {clk r : Nat} {kk : Int} {b : Bool} {m k x : Operand} (hg : o.guard = none) (ho : o.op = .insert 110 m k x) (hm : a.eval m = .map (some r)) (hk : a.eval k = .int .i64 kk) (hx : a.eval x = .agg #[.bool b]) (hb : w.heap[r]? = some (obj encB es clk))
    (h : ∀ W2, Fr w W2 [r] → W2.heap[r]? = some (obj encB (put es kk b clk) (putClk es kk clk)) → wpList Tryd.prog ops Q rest (a.put o.dst undef) W2) : wpList Tryd.prog ops Q (o :: rest) a w := by
  obtain ⟨W2, hr, h1, h2⟩ := put_run hb kk b
  refine wpl_skip hg ?_ (h W2 h1 h2)
  unfold execOp
  simp only [ho, hm, hk, hx, hr, Sem.run_bind, Sem.run_map, Result.andThen, Sem.run_pure]
theorem look_run {w : World} {es : Es Bool} {clk r : Nat} (kk : Int) (hb : w.heap[r]? = some (obj encB es clk)) :
    (Instr.lookup 110 (.map (some r)) (.int .i64 kk) true).run Tryd.prog w = .ok (.tuple #[.agg #[.bool ((look es kk).getD false)], .bool (look es kk).isSome]) w := by
  have hz : (zeroValue 137).run Tryd.prog w = .ok (.agg #[.bool false]) w := by kernel_rfl
  have hr := run_look (enc := encB) (k := kk) (.agg #[.bool false]) Tryd.underlying110 Tryd.underlying3 hz hb
  rw [hr]
  cases look es kk <;> rfl
theorem exec_look {o : Oper} {a : Act} {w : World} {es : Es Bool} {clk r : Nat} {kk : Int} {m k : Operand} (ho : o.op = .lookup 110 m k true) (hm : a.eval m = .map (some r)) (hk : a.eval k = .int .i64 kk) (hb : w.heap[r]? = some (obj encB es clk)) :
    (execOp a.eval o).run Tryd.prog w = .ok (.value (.tuple #[.agg #[.bool ((look es kk).getD false)], .bool (look es kk).isSome])) w := by
  have hz : (zeroValue 137).run Tryd.prog w = .ok (.agg #[.bool false]) w := by kernel_rfl
  have hr := run_look (enc := encB) (k := kk) (.agg #[.bool false]) Tryd.underlying110 Tryd.underlying3 hz hb
  unfold execOp
  simp only [ho, hm, hk, Sem.run_bind, Sem.run_map, hr, Result.andThen, Sem.run_pure]
  cases look es kk <;> rfl
theorem wpl_look {ops : Array Oper} {rest : List Oper} {o : Oper} {a : Act} {Q : Exit → Act → World → Prop} {w : World} {es : Es Bool} {clk r : Nat} {kk : Int} (m k : Operand) (hg : o.guard = none) (ho : o.op = .lookup 110 m k true) (hm : a.eval m = .map (some r)) (hk : a.eval k = .int .i64 kk) (hb : w.heap[r]? = some (obj encB es clk))
    (hK : wpList Tryd.prog ops Q rest (a.put o.dst (.tuple #[.agg #[.bool ((look es kk).getD false)], .bool (look es kk).isSome])) w) : wpList Tryd.prog ops Q (o :: rest) a w :=
  wpl_val hg (exec_look ho hm hk hb) hK
def wantsEs : Es Bool := [5, 28, 9, 10, 11, 13, 14, 16, 17, 12, 15, 18, 19, 20, 21, 22, 23, 24, 25, 27].zipIdx.map fun p => ((p.1 : Int), decide (p.1 = 25 ∨ p.1 = 27), p.2)
set_option maxHeartbeats 4000000 in
set_option maxRecDepth 100000 in
theorem wants_calls (w : World) (G : TabW w) : Calls Tryd.prog 73 #[] w fun e w' => ∃ r, e = .returned (.map (some r)) ∧ Fr w w' [] ∧ w'.heap[r]? = some (obj encB wantsEs 20) ∧ w.heap.size ≤ r := by
  have h1 : 0 < w.heap.size := by have := G.lt; omega
  have h2 : 2 < w.heap.size := by have := G.lt; omega
  have HT := Aside0.mk G
  have g0 := G.num
  have g2 := G.tru
  clear G
  have hu := Tryd.underlying137
  have hmm := @run_makeMap Tryd.prog
  have HF := Aside0.mk (Fr.alloc (Fr.refl w []) (Obj.map #[] 0))
  have HM : Aside0 ((w.alloc (Obj.map #[] 0)).heap[w.heap.size]? = some (obj encB [] 0)) := ⟨heap_alloc_new _ _⟩
  go_enter Tryd.func73, Tryd.ntmps73
  go_wp2_with (first | ((refine wpl_ins rfl rfl rfl rfl rfl HM.out ?_); intro W2 hF2 hM2; have HF' := Aside0.mk (HF.out.trans hF2 (by simp)); clear HF HM g0 g2; have HF := HF'; clear HF'; have HM := Aside0.mk hM2; have HT' := HT.out.fr0 HF.out; have g0 := HT'.num; have g2 := HT'.tru; clear hF2 hM2 HT'))
  go_ret
  exact ⟨_, rfl, HF.out, by have := HM.out; exact this, Nat.le_refl _⟩
end Go.Proofs.YtmfbdmjgkcijcaaDoor.H
