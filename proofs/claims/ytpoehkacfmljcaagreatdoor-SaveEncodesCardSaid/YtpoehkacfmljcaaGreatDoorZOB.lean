/- A row of bytes of the call's own, behind which one may write, whether append made it or a conversion from a string (whose row bears a mark behind its end). -/
import Derived.Test.YtpoehkacfmljcaaGreatDoorZV
import Derived.Test.YtpoehkacfmljcaaGreatDoorZCB
import Derived.Laws.BytesArg
set_option maxHeartbeats 4000000
set_option maxRecDepth 100000
namespace Go.Proofs.YtpoehkacfmljcaaGreatDoor.H
open Go.RowKit Go.Proofs.YtpoehkacfmljcaaGreatDoorW.PrintWords Go.Proofs.YtpoehkacfmljcaaGreatDoorW.PrintLast Go.Proofs.YtpoehkacfmljcaaGreatDoorW.PrintMore
open Go.ChangeMaps (setBlock)
attribute [local go_sem] max2_int min2_int max_two min_two max_three min_three max_four min_four
set_option linter.unusedVariables false
set_option linter.unusedSimpArgs false
open Go.Proofs.YtpoehkacfmljcaaGreatDoor.M
def Buf (mk : Prop) (w : World) (base : Nat) (v : Value) (l : List Int) : Prop :=
 (v = .slice none 0 0 ∧ l = []) ∨ ∃ g cap cur fr, v = .slice (some ⟨g, 0, none⟩) l.length cap ∧ base ≤ g ∧ w.heap[g]? = some (.cells cur 5 fr) ∧ l.length ≤ cap ∧ cap ≤ maxLen ∧ cur.size = cap ∧ cur.toList.take l.length = l.map (Value.int .u8) ∧ (fr = (0, 0) ∨ (mk ∧ cur.size ≤ fr.1))
theorem Buf.nil (mk : Prop) (w : World) (base : Nat) : Buf mk w base (.slice none 0 0) [] := .inl ⟨rfl, rfl⟩
theorem Buf.own {w : World} {base : Nat} {v : Value} {l : List Int} (h : Buf False w base v l) : w.ownsRow base 5 1 v l.length (l.map (Value.int .u8)) := by
 refine ⟨by simp, ?_⟩
 rcases h with ⟨rfl, rfl⟩ | ⟨g, cap, cur, fr, rfl, hb, hg, hl, hm, hs, ht, hf⟩
 ·exact .inl ⟨rfl, rfl⟩
 ·rcases hf with rfl | hf
  ·exact .inr ⟨g, cap, cur, rfl, hb, hg, hl, hm, by omega, by simpa using ht⟩
  ·exact hf.1.elim
theorem Buf.of_own {mk : Prop} {w : World} {base : Nat} {v : Value} {l : List Int} (h : w.ownsRow base 5 1 v l.length (l.map (Value.int .u8))) : Buf mk w base v l := by
 obtain ⟨h1, h2⟩ := h
 rcases h2 with ⟨rfl, h2⟩ | ⟨g, cap, cur, rfl, hb, hg, hl, hm, hs, ht⟩
 ·exact .inl ⟨rfl, List.eq_nil_of_length_eq_zero h2⟩
 ·exact .inr ⟨g, cap, cur, (0, 0), rfl, hb, hg, hl, hm, by omega, by simpa using ht, .inl rfl⟩
theorem Buf.len {mk : Prop} {w : World} {base : Nat} {v : Value} {l : List Int} (h : Buf mk w base v l) : l.length ≤ maxLen := by
 rcases h with ⟨rfl, rfl⟩ | ⟨g, cap, cur, fr, rfl, hb, hg, hl, hm, hs, ht, hf⟩
 ·simp [maxLen]
 ·omega
theorem Buf.reads {mk : Prop} {w : World} {base : Nat} {v : Value} {l : List Int} (h : Buf mk w base v l) : ∃ A c, v = .slice A l.length c ∧ l.length ≤ c ∧ Kd.C (Kd.int .u8) w A l.length l := by
 rcases h with ⟨rfl, rfl⟩ | ⟨g, cap, cur, fr, rfl, hb, hg, hl, hm, hs, ht, hf⟩
 ·exact ⟨none, 0, rfl, Nat.le_refl _, rfl, by simp, fun h => absurd h (by simp)⟩
 ·refine ⟨_, _, rfl, hl, rfl, by have : maxLen = 9223372036854775807 := rfl; omega, fun _ => ⟨_, rfl, fun j p hj => ⟨[.int .u8 p], rfl, rfl, fun i u hu => ?_⟩⟩⟩
  have hi : i = 0 := by
   have := (List.getElem?_eq_some_iff.1 hu).1
   simpa using this
  subst hi
  obtain rfl : Value.int .u8 p = u := by simpa using hu
  show w.cell? ((⟨g, 0, none⟩ : Addr).add (j * 1 + 0)) = _
  have ha : (⟨g, 0, none⟩ : Addr).add (j * 1 + 0) = ⟨g, j, none⟩ := by rw [Addr.add_lit]; simp
  rw [ha]
  have hj' := congrArg (fun r : List Value => r[j]?) ht
  simp only [List.getElem?_map, hj, Option.map_some, List.getElem?_take, (List.getElem?_eq_some_iff.1 hj).1, if_true] at hj'
  simp only [World.cell?, hg]
  simpa using hj'
theorem Buf.blk {mk : Prop} {w : World} {base : Nat} {v : Value} {l : List Int} (h : Buf mk w base v l) : ∀ k, v.ownBlock = some k → base ≤ k ∧ k < w.heap.size := by
 rcases h with ⟨rfl, rfl⟩ | ⟨g, cap, cur, fr, rfl, hb, hg, _⟩
 ·simp [Value.ownBlock]
 ·intro k hk
  obtain rfl : g = k := by simpa [Value.ownBlock] using hk
  exact ⟨hb, blk_lt hg⟩
theorem Buf.move {mk : Prop} {w w1 : World} {base : Nat} {v : Value} {l : List Int} (h : Buf mk w base v l) (hm : ∀ k, base ≤ k → k < w.heap.size → v.ownBlock = some k → w1.heap[k]? = w.heap[k]?) : Buf mk w1 base v l := by
 rcases h with ⟨rfl, rfl⟩ | ⟨g, cap, cur, fr, rfl, hb, hg, r⟩
 ·exact .inl ⟨rfl, rfl⟩
 ·exact .inr ⟨g, cap, cur, fr, rfl, hb, (hm g hb (blk_lt hg) rfl).trans hg, r⟩
theorem Buf.lower {mk : Prop} {w : World} {base base' : Nat} {v : Value} {l : List Int} (h : Buf mk w base v l) (hb : base' ≤ base) : Buf mk w base' v l := by
 rcases h with h | ⟨g, cap, cur, fr, hv, hg, r⟩
 ·exact .inl h
 ·exact .inr ⟨g, cap, cur, fr, hv, Nat.le_trans hb hg, r⟩
theorem Buf.fr {mk : Prop} {w w1 : World} {base : Nat} {v : Value} {l : List Int} (h : Buf mk w base v l) (hf : Fr w w1 []) : Buf mk w1 base v l := h.move (fun k _ hk _ => hf.block k hk (by simp))
theorem Buf.imp {mk mk' : Prop} {w : World} {base : Nat} {v : Value} {l : List Int} (h : Buf mk w base v l) (hm : mk → mk') : Buf mk' w base v l := by
 rcases h with h | ⟨g, cap, cur, fr, h1, h2, h3, h4, h5, h6, h7, h8⟩
 ·exact .inl h
 ·exact .inr ⟨g, cap, cur, fr, h1, h2, h3, h4, h5, h6, h7, h8.imp id (fun h => ⟨hm h.1, h.2⟩)⟩

theorem store_at (P : Program) (g o : Nat) (t : TypeId) (fz : Nat × Nat) : ∀ (vs : List Value) (i : Nat) (cur : Array Value) (w : World), w.heap[g]? = some (.cells cur t fz) → (fz = (0, 0) ∨ cur.size ≤ fz.1) → o + i + vs.length ≤ cur.size → (∀ v ∈ vs, v.oneCell' = true) →
  (storeCells ⟨g, o, none⟩ vs i).run P w = .ok () (w.setRow g (cur.toList.take (o + i) ++ vs ++ cur.toList.drop (o + i + vs.length)).toArray)
 | [], i, cur, w, hg, _, _, _ => by
  simp only [storeCells, List.append_nil, List.length_nil, Nat.add_zero, List.take_append_drop, Array.toArray_toList]
  rw [setRow_self w g cur t fz hg]
  rfl
 | v :: rest, i, cur, w, hg, hfz, hl, h1 => by
  have hi : o + i < cur.size := by simp at hl; omega
  have hadd : (⟨g, o, none⟩ : Addr).add i = ⟨g, o + i, none⟩ := by unfold Addr.add; split <;> simp_all
  have hcell : w.cell? ⟨g, o + i, none⟩ = some cur[o + i] := by simp [World.cell?, hg, hi]
  have hfro : w.frozen? ⟨g, o + i, none⟩ = false := by
   obtain ⟨lo, hi'⟩ := fz
   simp only [World.frozen?, hg, Bool.and_eq_false_iff, decide_eq_false_iff_not]
   rcases hfz with h | h
   ·injection h with h h'
    right; omega
   ·left; simp only at h; omega
  have hst : (store ((⟨g, o, none⟩ : Addr).add i) v).run P w = .ok () (w.setRow g (cur.setIfInBounds (o + i) v)) := by
   rw [hadd, run_store P w _ v _ (h1 v (by simp)), hcell]
   simp [hfro, setCell_eq_setRow w g (o + i) cur t fz v hg]
  have ih := store_at P g o t fz rest (i + 1) (cur.setIfInBounds (o + i) v) (w.setRow g (cur.setIfInBounds (o + i) v)) (setRow_heap w g cur _ t _ hg) (by simpa using hfz) (by simp at hl ⊢; omega) (fun x hx => h1 x (by simp [hx]))
  simp only [storeCells, Sem.run_bind, hst, Result.andThen_ok, ih, setRow_setRow]
  congr 3
  have e := list_seg_step cur.toList (o + i) v rest (by simp at hl ⊢; omega)
  simpa [Array.toList_setIfInBounds, Nat.add_assoc] using e
structure Gr (w w' : World) (v v' : Value) : Prop where
 grown : w.grownBy w' v.ownBlock
 own : ∀ k, v'.ownBlock = some k → v.ownBlock = some k ∨ w.heap.size ≤ k
theorem Gr.refl (w : World) (v : Value) : Gr w w v v := ⟨⟨rfl, rfl, rfl, Nat.le_refl _, fun _ _ _ => rfl⟩, fun _ h => .inl h⟩
theorem Gr.size {w w' : World} {v v' : Value} (h : Gr w w' v v') : w.heap.size ≤ w'.heap.size := h.grown.size
theorem Gr.trans {a b c : World} {u v x : Value} (h : Gr a b u v) (k : Gr b c v x) : Gr a c u x :=
 ⟨⟨k.grown.os.trans h.grown.os, k.grown.tape.trans h.grown.tape, k.grown.output.trans h.grown.output, Nat.le_trans h.size k.size, fun i hi hn => (k.grown.block i (Nat.lt_of_lt_of_le hi h.size) (fun e => (h.own i e.symm).elim (fun e' => hn e'.symm) (fun e' => by omega))).trans (h.grown.block i hi hn)⟩, fun i hi => (k.own i hi).elim (fun e => h.own i e) (fun e => .inr (Nat.le_trans h.size e))⟩
theorem Gr.of_fr {a b : World} (h : Fr a b []) (v : Value) : Gr a b v v := ⟨⟨h.os, h.tape, h.output, h.size, fun k hk _ => h.block k hk (by simp)⟩, fun _ h => .inl h⟩
theorem Gr.fr {mk : Prop} {a w w' : World} {v v' : Value} {l : List Int} (h : Gr w w' v v') (hB : Buf mk w a.heap.size v l) (hF : Fr a w []) : Fr a w' [] :=
 ⟨h.grown.os.trans hF.os, h.grown.tape.trans hF.tape, h.grown.output.trans hF.output, Nat.le_trans hF.size h.size, fun k hk' _ => (h.grown.block k (Nat.lt_of_lt_of_le hk' hF.size) (fun e => absurd (hB.blk k e.symm).1 (by omega))).trans (hF.block k hk' (by simp))⟩
theorem Gr.blk {mk : Prop} {b : Nat} {w w' : World} {v v' : Value} {l : List Int} (h : Gr w w' v v') {g : Nat} {o : Obj} (hB : Buf mk w b v l) (hg : w.heap[g]? = some o) (hn : g < b) : w'.heap[g]? = some o :=
 (h.grown.block g (blk_lt hg) (fun e => absurd (hB.blk g e.symm).1 (by omega))).trans hg
theorem Gr.late {mk : Prop} {b : Nat} {w W w' : World} {v v' : Value} {l : List Int} (h : Gr W w' v v') {g : Nat} {o : Obj} (hB : Buf mk w b v l) (hg : W.heap[g]? = some o) (hn : w.heap.size ≤ g) : w'.heap[g]? = some o :=
 (h.grown.block g (blk_lt hg) (fun e => absurd (hB.blk g e.symm).2 (by omega))).trans hg
theorem Gr.typ {mk : Prop} {b : Nat} {w w' : World} {v v' : Value} {l : List Int} (h : Gr w w' v v') (hB : Buf mk w b v l) {g : Nat} {cs : Array Value} {t : TypeId} {fr : Nat × Nat} (hg : w.heap[g]? = some (.cells cs t fr)) (ht : t ≠ 5) : w'.heap[g]? = some (.cells cs t fr) := by
 refine (h.grown.block g (blk_lt hg) (fun e => ?_)).trans hg
 rcases hB with ⟨rfl, rfl⟩ | ⟨g', cap, cur, fr', rfl, hb, hg', _⟩
 ·simp [Value.ownBlock] at e
 ·obtain rfl : g = g' := by simpa [Value.ownBlock] using e
  rw [hg] at hg'
  injection hg' with hg'
  injection hg' with _ h2
  exact ht h2
theorem buf_fr_room {w : World} {g : Nat} {cur : Array Value} : w.grownBy (w.setRow g cur) (some g) := ⟨rfl, rfl, rfl, by simp, fun k _ hk => setRow_other w g k _ (fun e => hk (by simp [e]))⟩
theorem u8_one (l : List Int) : ∀ u ∈ l.map (Value.int .u8), u.oneCell' = true := by
 intro u hu
 obtain ⟨x, _, rfl⟩ := List.mem_map.1 hu
 rfl
theorem buf_room {mk : Prop} {w : World} {base : Nat} {l xs : List Int} {g cap : Nat} {cur : Array Value} {fr : Nat × Nat} (hb : base ≤ g) (hg : w.heap[g]? = some (.cells cur 5 fr)) (hm : cap ≤ maxLen) (hs : cur.size = cap) (ht : cur.toList.take l.length = l.map (Value.int .u8)) (hf : fr = (0, 0) ∨ (mk ∧ cur.size ≤ fr.1)) (hr : l.length + xs.length ≤ cap) :
  Buf mk (w.setRow g (cur.toList.take l.length ++ xs.map (Value.int .u8) ++ cur.toList.drop (l.length + xs.length)).toArray) base (.slice (some ⟨g, 0, none⟩) (l.length + xs.length) cap) (l ++ xs) := by
 have hz : (cur.toList.take l.length ++ xs.map (Value.int .u8) ++ cur.toList.drop (l.length + xs.length)).toArray.size = cap := by
  simp only [List.size_toArray, List.length_append, List.length_take, List.length_drop, Array.length_toList, List.length_map]
  omega
 refine .inr ⟨g, cap, _, fr, by rw [List.length_append], hb, setRow_heap w g cur _ _ _ hg, by rw [List.length_append]; exact hr, hm, hz, ?_, ?_⟩
 ·rw [ht, List.length_append, ← List.map_append]
  exact (congrArg (fun n => List.take n _) (by simp)).trans List.take_left
 ·rw [hz, ← hs]; exact hf
theorem news_c {w : World} {ad : Addr} {xs : List Int} (h : Kd.C (Kd.int .u8) w (some ad) xs.length xs) : ∀ j u, (xs.map (Value.int .u8))[j]? = some u → w.cell? (ad.add j) = some u := by
 intro j u hu
 rw [List.getElem?_map, Option.map_eq_some_iff] at hu
 obtain ⟨x, hx, rfl⟩ := hu
 obtain ⟨_, _, h3⟩ := h
 obtain ⟨ad', e, hc⟩ := h3 (by have := (List.getElem?_eq_some_iff.1 hx).1; omega)
 obtain rfl : ad = ad' := by simpa using e
 obtain ⟨c, _, rfl, hcell⟩ := hc j x hx
 simpa [Kd.int, Kd.scalar] using hcell 0 _ rfl
theorem run_buf_app {mk : Prop} {w : World} {base : Nat} (ty : TypeId) {v : Value} {l xs : List Int} (h : Buf mk w base v l) {ad : Addr} {c : Nat} (hx : Kd.C (Kd.int .u8) w (some ad) xs.length xs) (hl : l.length + xs.length ≤ 140737488355328) (hbase : base ≤ w.heap.size) :
  ∃ v' w', (Builtin.append_ #[32, 32] ty #[v, .slice (some ad) xs.length c]).run Tryz.prog w = .ok v' w' ∧ Buf mk w' base v' (l ++ xs) ∧ Gr w w' v v' := by
 obtain ⟨i0, hi0, hz0, hz1, hz2⟩ := info_parts info5
 have hu := Tryz.underlying32
 have hn := news_c hx
 have hmx : l.length + xs.length ≤ maxLen := by unfold maxLen; omega
 rcases h with ⟨rfl, rfl⟩ | ⟨g, cap, cur, fr, rfl, hb, hg, hlc, hm, hs, ht, hf⟩
 ·obtain ⟨v', w', hr, ho, hgr, _, hat⟩ := run_append_own_at (P := Tryz.prog) w base 32 ty 5 i0 (.int .u8 0) 1 1 hu hi0 hz0 hz1 hz2 rfl (by decide) (.slice none 0 0) 0 [] (World.ownsRow_nil w base _ 1) ad xs.length c (xs.map (Value.int .u8)) (by simp) hn (u8_one _) (by simpa using hmx) (by simpa using hl) hbase
  refine ⟨v', w', hr, Buf.of_own ?_, ⟨hgr, fun k hk => hat.elim (fun e => .inl (e ▸ hk)) (fun e => .inr (by rw [e] at hk; injection hk; omega))⟩⟩
  simpa using ho
 ·by_cases hroom : l.length + xs.length ≤ cap
  ·have hf1 := run_firstCells_some (P := Tryz.prog) w 1 xs.length ad xs.length c (xs.map (Value.int .u8)) (by simp) hn
   have hst := store_at Tryz.prog g l.length 5 fr (xs.map (Value.int .u8)) 0 cur w hg (hf.imp id (fun h => h.2)) (by simp; omega) (u8_one _)
   simp only [Nat.add_zero, List.length_map] at hst
   refine ⟨_, _, ?_, buf_room hb hg hm hs ht hf hroom, ⟨buf_fr_room, fun k hk => .inl hk⟩⟩
   simp [Builtin.append_, run_underlying hu, sizeOf, typeInfo, hi0, hz1, Builtin.lenOf, hroom, hf1, Addr.add_lit, hst]
  ·have hB : Buf mk w base (.slice (some ⟨g, 0, none⟩) l.length cap) l := .inr ⟨g, cap, cur, fr, rfl, hb, hg, hlc, hm, hs, ht, hf⟩
   obtain ⟨A', c', e', _, hC⟩ := hB.reads
   injection e' with e1 _ e3
   subst e1
   obtain ⟨v', w', hr, ho, hgr⟩ := run_append_arg_grows (P := Tryz.prog) w 32 ty 5 i0 (.int .u8 0) 1 1 hu hi0 hz0 hz1 hz2 rfl (by decide) ⟨g, 0, none⟩ l.length cap (l.map (Value.int .u8)) (by simp) (news_c hC) ad xs.length c (xs.map (Value.int .u8)) (by simp) hn (by omega) hmx (by omega)
   refine ⟨v', w', hr, Buf.lower (Buf.of_own ?_) hbase, ⟨⟨hgr.1, hgr.2, hgr.3, hgr.4, fun k hk _ => hgr.5 k hk (by simp)⟩, fun k hk => .inr (ho.lt k hk).1⟩⟩
   simpa using ho
theorem wp_buf_app {mk : Prop} {b0 : Nat} {w : World} {ops : Array Oper} {rest : List Oper} {o : Oper} {a : Act} {Q : Exit → Act → World → Prop} (hgd : o.guard = none) (s x : Operand)
  (ho : o.op = .call { callee := .builtin .append, args := #[s, x], argTypes := #[32, 32] }) {v : Value} {l xs : List Int} {ad : Addr} {m c : Nat}
  (hs : a.eval s = v) (hx : a.eval x = .slice (some ad) m c) (hm : m = xs.length)
  (h : Buf mk w b0 v l) (hF : b0 ≤ w.heap.size) (hC : Kd.C (Kd.int .u8) w (some ad) xs.length xs) (hl : l.length + xs.length ≤ 140737488355328)
  (hk : ∀ v' w', Buf mk w' b0 v' (l ++ xs) → Gr w w' v v' → wpList Tryz.prog ops Q rest (a.put o.dst v') w') : wpList Tryz.prog ops Q (o :: rest) a w := by
 subst hm
 refine wpList_plain hgd fun K hK => ?_
 obtain ⟨v', w', hr, hB, hg⟩ := run_buf_app o.type h hC hl hF
 unfold Oper.wp execOp
 simp only [ho, resolve, invoke, builtin, Sem.run_bind, Sem.run_pure, Result.andThen_ok, List.map_toArray, List.map_cons, List.map_nil, hs, hx, hr]
 rw [hr, Result.andThen_ok]
 exact hK _ _ (hk v' w' hB hg)
theorem wp_buf_one {mk : Prop} {b0 : Nat} {w : World} {ops : Array Oper} {rest : List Oper} {o : Oper} {a : Act} {Q : Exit → Act → World → Prop} (hgd : o.guard = none) (s x : Operand)
  (ho : o.op = .call { callee := .builtin .append, args := #[s, x], argTypes := #[32, 32] }) {v : Value} {l : List Int} (b : Int)
  (hs : a.eval s = v) (hx : a.eval x = .slice (some ⟨w.heap.size, 0, none⟩) 1 1)
  (h : Buf mk w b0 v l) (hF : b0 ≤ w.heap.size) (hl : l.length < 140737488355328)
  (hk : ∀ v' w', Buf mk w' b0 v' (l ++ [b]) → Gr w w' v v' → wpList Tryz.prog ops Q rest (a.put o.dst v') w') : wpList Tryz.prog ops Q (o :: rest) a (w.alloc (.cells #[.int .u8 b] 5)) := by
 refine wp_buf_app (b0 := b0) (mk := mk) hgd s x ho hs hx (xs := [b]) rfl (h.fr ((Fr.refl _ _).alloc _)) (Nat.le_trans hF (by simp)) ⟨rfl, by simp, fun _ => ⟨_, rfl, fun j p hj => ?_⟩⟩ hl (fun v' w' h1 h2 => hk v' w' h1 ((Gr.of_fr ((Fr.refl w []).alloc _) v).trans h2))
 obtain ⟨rfl, rfl⟩ : j = 0 ∧ p = b := by
  have h1 := (List.getElem?_eq_some_iff.1 hj).1
  have : j = 0 := by simpa using h1
  subst this
  exact ⟨rfl, by simpa using hj.symm⟩
 refine ⟨[.int .u8 p], rfl, rfl, fun i u hu => ?_⟩
 have hi : i = 0 := by
  have := (List.getElem?_eq_some_iff.1 hu).1
  simpa using this
 subst hi
 obtain rfl : Value.int .u8 p = u := by simpa using hu
 rw [Addr.add_lit]
 exact blk_cell (blk_newN rfl) 0
def sB (s : ByteArray) : List Int := s.data.toList.map fun b => (b.toNat : Int)
theorem sB_len (s : ByteArray) : (sB s).length = s.size := by rw [sB, List.length_map, Array.length_toList]; rfl
theorem strCells_sB (s : ByteArray) : Go.Lib.strCells s = (sB s).map (Value.int .u8) := by simp [Go.Lib.strCells, sB]
theorem run_buf_str {mk : Prop} {w : World} {base : Nat} (ty : TypeId) {v : Value} {l : List Int} (h : Buf mk w base v l) (s : ByteArray) (hl : l.length + s.size ≤ 140737488355328) (hbase : base ≤ w.heap.size) :
  ∃ v' w', (Builtin.append_ #[32, 9] ty #[v, .string s]).run Tryz.prog w = .ok v' w' ∧ Buf mk w' base v' (l ++ sB s) ∧ Gr w w' v v' := by
 obtain ⟨i0, hi0, hz0, hz1, hz2⟩ := info_parts info5
 have hu := Tryz.underlying32
 have hus := Tryz.underlying9
 have hmx : l.length + s.size ≤ maxLen := by unfold maxLen; omega
 have hsl := sB_len s
 rcases h with ⟨rfl, rfl⟩ | ⟨g, cap, cur, fr, rfl, hb, hg, hlc, hm, hs, ht, hf⟩
 ·obtain ⟨v', w', hr, ho, hgr, _⟩ := Go.Lib.run_append_own_string (P := Tryz.prog) w w.heap.size 32 9 ty 5 i0 hu hus hi0 hz0 hz1 hz2 (.slice none 0 0) 0 [] (World.ownsRow_nil w _ _ 1) s (by simpa using hmx) (by simpa using hl) (Nat.le_refl _)
  refine ⟨v', w', hr, Buf.lower (Buf.of_own ?_) hbase, ⟨hgr, fun k hk => .inr (ho.lt k hk).1⟩⟩
  rw [strCells_sB] at ho
  simpa [hsl] using ho
 ·by_cases hroom : l.length + s.size ≤ cap
  ·have hf1 := Go.Lib.run_firstCells_string (P := Tryz.prog) w 1 s
   have hst := store_at Tryz.prog g l.length 5 fr (Go.Lib.strCells s) 0 cur w hg (hf.imp id (fun h => h.2)) (by rw [Go.Lib.strCells_length]; omega) (Go.Lib.strCells_oneCell s)
   simp only [Nat.add_zero, Go.Lib.strCells_length] at hst
   have hR := buf_room (xs := sB s) hb hg hm hs ht hf (by rw [hsl]; exact hroom)
   rw [← strCells_sB, hsl] at hR
   refine ⟨_, _, ?_, hR, ⟨buf_fr_room, fun k hk => .inl hk⟩⟩
   simp [Builtin.append_, run_underlying hu, run_underlying hus, sizeOf, typeInfo, hi0, hz1, Builtin.lenOf, hroom, hf1, Addr.add_lit, hst]
  ·have hB : Buf mk w base (.slice (some ⟨g, 0, none⟩) l.length cap) l := .inr ⟨g, cap, cur, fr, rfl, hb, hg, hlc, hm, hs, ht, hf⟩
   obtain ⟨A', c', e', _, hC⟩ := hB.reads
   injection e' with e1 _ e3
   subst e1
   have hr := Go.Lib.run_append_grow_string (P := Tryz.prog) w 32 9 ty 5 i0 (.int .u8 0) hu hus hi0 hz0 ⟨g, 0, none⟩ l.length cap (l.map (Value.int .u8)) (by rw [hz1]; simp) (news_c hC) s (by omega) (by omega) (by rw [hz2]; exact growslice_fits (by omega) (by omega))
   have hge := grownCap_ge w (l.length + s.size) cap 5
   have hcm2 : grownCap w (l.length + s.size) cap 5 ≤ maxLen := grownCap_le_maxLen w _ cap _ hmx
   refine ⟨_, _, hr, .inr ⟨w.heap.size, _, _, (0, 0), by rw [List.length_append, hsl], hbase, heap_alloc_new w.drew _, by rw [List.length_append, hsl]; exact hge, hcm2, ?_, ?_, .inl rfl⟩, ⟨⟨rfl, rfl, rfl, by simp, fun k hk _ => heap_alloc_old w.drew _ hk⟩, fun k hk => .inr (by simp [Value.ownBlock] at hk; omega)⟩⟩
   ·have hz1 : (Value.int IntKind.u8 0).cells.size = 1 := rfl
    simp only [Array.size_append, List.size_toArray, size_zeroCells, hz1, List.length_map, Go.Lib.strCells_length]
    omega
   ·simp only [Array.toList_append, strCells_sB]
    rw [← List.map_append]
    exact (congrArg (fun n => List.take n _) (by simp)).trans List.take_left
theorem wp_buf_str {mk : Prop} {b0 : Nat} {w : World} {ops : Array Oper} {rest : List Oper} {o : Oper} {a : Act} {Q : Exit → Act → World → Prop} (hgd : o.guard = none) (sl x : Operand)
  (ho : o.op = .call { callee := .builtin .append, args := #[sl, x], argTypes := #[32, 9] }) {v : Value} {l : List Int} (s : ByteArray)
  (hs : a.eval sl = v) (hx : a.eval x = .string s)
  (h : Buf mk w b0 v l) (hF : b0 ≤ w.heap.size) (hl : l.length + s.size ≤ 140737488355328)
  (hk : ∀ v' w', Buf mk w' b0 v' (l ++ sB s) → Gr w w' v v' → wpList Tryz.prog ops Q rest (a.put o.dst v') w') : wpList Tryz.prog ops Q (o :: rest) a w := by
 refine wpList_plain hgd fun K hK => ?_
 obtain ⟨v', w', hr, hB, hg⟩ := run_buf_str o.type h s hl hF
 unfold Oper.wp execOp
 simp only [ho, resolve, invoke, builtin, Sem.run_bind, Sem.run_pure, Result.andThen_ok, List.map_toArray, List.map_cons, List.map_nil, hs, hx, hr]
 first | exact hK _ _ (hk v' w' hB hg) | (rw [hr, Result.andThen_ok]; exact hK _ _ (hk v' w' hB hg))
theorem buf_conv (w : World) (s : ByteArray) (hs : s.size ≤ 140737488355328) : Buf True (Go.Lib.bytesWorld w 5 s) w.heap.size (.slice (some ⟨w.heap.size, 0, none⟩) s.size (grownCap w s.size 0 5)) (sB s) := by
 have hz : (Go.Lib.bytesCells w 5 s).size = grownCap w s.size 0 5 := by
  have hge := grownCap_ge w s.size 0 5
  have : s.data.size = s.size := rfl
  simp [Go.Lib.bytesCells]
  omega
 refine .inr ⟨w.heap.size, _, _, _, by rw [sB_len], Nat.le_refl _, Go.Lib.bytesWorld_at_new w _ s, by rw [sB_len]; exact grownCap_ge w s.size 0 _, ?_, hz, ?_, .inr ⟨trivial, Nat.le_refl _⟩⟩
 ·exact grownCap_le_maxLen w s.size 0 _ (by unfold maxLen; omega)
 ·have : (Go.Lib.bytesCells w 5 s).toList = (sB s).map (Value.int .u8) ++ List.replicate (grownCap w s.size 0 5 - s.size) (.int .u8 0) := by
   simp [Go.Lib.bytesCells, sB]
  rw [this]
  exact (congrArg (fun n => List.take n _) (by simp)).trans List.take_left
theorem fr_conv (w : World) (e : TypeId) (s : ByteArray) : Fr w (Go.Lib.bytesWorld w e s) [] := ⟨rfl, rfl, rfl, by rw [Go.Lib.bytesWorld_size]; omega, fun k hk _ => Go.Lib.bytesWorld_at_old w e s k hk⟩
theorem run_conv (w : World) (s : ByteArray) : (convert 9 32 (.string s)).run Tryz.prog w = .ok (.slice (some ⟨w.heap.size, 0, none⟩) s.size (grownCap w s.size 0 5)) (Go.Lib.bytesWorld w 5 s) :=
 Go.Lib.run_convert_string_bytes w _ _ _ s Tryz.underlying9 Tryz.underlying32 Tryz.underlying5
theorem reps8 (W : World) (b : Nat) (ok : Nat → Prop) : ∀ (xs ys : List Int), Reps ((Kd.int .u8).M W b ok) 1 ys (ys.map (Value.int .u8)) → Reps ((Kd.int .u8).M W b ok) 1 (ys ++ xs) ((ys ++ xs).map (Value.int .u8))
 | [], ys, h => by simpa using h
 | x :: xs, ys, h => by
  have h1 : Reps ((Kd.int .u8).M W b ok) 1 (ys ++ [x]) ((ys ++ [x]).map (Value.int .u8)) := by rw [List.map_append]; exact h.snoc rfl rfl
  simpa using reps8 W b ok xs (ys ++ [x]) h1
theorem lit8_R (l : List Int) (hl : l.length ≤ 140000000000000) (w : World) (base : Nat) (hb : base ≤ w.heap.size) : Kd.R (Kd.int .u8) 5 (w.alloc (.cells (l.map (Value.int .u8)).toArray 5)) base (fun _ => True) (.slice (some ⟨w.heap.size, 0, none⟩) l.length l.length) l :=
 ⟨fun _ _ => trivial, l.map (Value.int .u8), ⟨by simp [Kd.int, Kd.scalar], .inr ⟨w.heap.size, l.length, (l.map (Value.int .u8)).toArray, rfl, hb, blk_newN rfl, Nat.le_refl _, by unfold maxLen; omega, by simp [Kd.int, Kd.scalar], by simp [Kd.int, Kd.scalar]; exact List.take_of_length_le (by simp)⟩⟩, by have h := reps8 (w.alloc (.cells (l.map (Value.int .u8)).toArray 5)) base (fun k => True ∧ some k ≠ (Value.slice (some ⟨w.heap.size, 0, none⟩) l.length l.length).ownBlock) l [] (Reps.none _ _); rw [List.nil_append] at h; exact h⟩
theorem rAppendUint_calls (A : Option Addr) (c : Nat) (l : List Int) {x : Nat} (hx : x < 18446744073709551616) (w : World) (ha : Kd.C (Kd.int .u8) w A l.length l) (hc : l.length ≤ c) (hl : l.length ≤ 130000000000000) :
  Calls Tryz.prog 29 #[.slice A l.length c, .int .u64 x] w (OwB (l ++ uvar x) w) := by
 have HA := AsM ha
 have hul := uvar_len64 hx
 have CV : Aside0 (∀ W, Fr w W [] → Calls Tryz.prog 27 #[.int .u64 x] W (OwB (uvar x) W)) := ⟨fun W _ => rVarint_calls hx W⟩
 have CJ : Aside0 (∀ W B d, Fr w W [] → Kd.C (Kd.int .u8) W B (uvar x).length (uvar x) → (uvar x).length ≤ d → Calls Tryz.prog 26 #[.slice A l.length c, .slice B (uvar x).length d] W (OwB (l ++ uvar x) w)) := ⟨fun W B d h h2 h3 => (joined_calls A c l B d (uvar x) W (Kd.C_below ha h.below) hc h2 h3 (by omega)).mono fun _ _ hh => hh.of_fr h⟩
 clear ha hul hx
 go_enter Tryz.func29, Tryz.ntmps29
 go_wp2_with (first | (go_at_call 27; (refine (CV.out _ FQ).mono ?_; rintro e W1 h1; obtain ⟨B, d, rfl, hd, hC, hF⟩ := h1.open_; have HF1 : Aside0 (Fr w W1 []) := ⟨Fr.trans (M := []) FQ hF (by simp)⟩; have HC1 := AsM hC; have HD1 := AsM hd; clear h1 hC hF hd)) | (go_at_call 26; (refine (CJ.out _ _ _ HF1.out HC1.out HD1.out).mono ?_; rintro e W2 h2; obtain ⟨v2, rfl, hR2, hB2⟩ := h2; have HR2 := AsM hR2; have HB2 := AsM hB2; clear hR2 hB2)))
 go_ret
 exact ⟨_, rfl, HR2.out, HB2.out⟩
theorem rAppendInt_calls (A : Option Addr) (c : Nat) (l : List Int) {x : Int} (hx : -9223372036854775808 ≤ x ∧ x < 9223372036854775808) (w : World) (ha : Kd.C (Kd.int .u8) w A l.length l) (hc : l.length ≤ c) (hl : l.length ≤ 130000000000000) :
  Calls Tryz.prog 30 #[.slice A l.length c, .int .i64 x] w (OwB (l ++ uvar (zig x)) w) := by
 have hz := zig_lt hx
 have hul := uvar_len64 hz
 have CZ : Aside0 (∀ W : World, Calls Tryz.prog 44 #[.int .i64 x] W fun e w' => e = .returned (.int .u64 ((zig x : Nat) : Int)) ∧ Drawn0 W w') := ⟨fun W => payoffref04_Zigzag.calls x _ W (rzig_f hx)⟩
 obtain ⟨z, hzz⟩ : ∃ z, zig x = z := ⟨_, rfl⟩
 rw [hzz] at hz hul CZ ⊢
 have CV : Aside0 (∀ W, Fr w W [] → Calls Tryz.prog 27 #[.int .u64 z] W (OwB (uvar z) W)) := ⟨fun W _ => rVarint_calls hz W⟩
 have CJ : Aside0 (∀ W B d, Fr w W [] → Kd.C (Kd.int .u8) W B (uvar z).length (uvar z) → (uvar z).length ≤ d → Calls Tryz.prog 26 #[.slice A l.length c, .slice B (uvar z).length d] W (OwB (l ++ uvar z) w)) := ⟨fun W B d h h2 h3 => (joined_calls A c l B d (uvar z) W (Kd.C_below ha h.below) hc h2 h3 (by omega)).mono fun _ _ hh => hh.of_fr h⟩
 clear ha hul hx hz hzz
 go_enter Tryz.func30, Tryz.ntmps30
 go_wp2_with (first | (go_at_call 44; (refine (CZ.out _).mono ?_); rintro e w' ⟨rfl, ⟨nd, rfl⟩⟩) | (go_at_call 27; (refine (CV.out _ FQ).mono ?_; rintro e W1 h1; obtain ⟨B, d, rfl, hd, hC, hF⟩ := h1.open_; have HF1 : Aside0 (Fr w W1 []) := ⟨Fr.trans (M := []) FQ hF (by simp)⟩; have HC1 := AsM hC; have HD1 := AsM hd; clear h1 hC hF hd)) | (go_at_call 26; (refine (CJ.out _ _ _ HF1.out HC1.out HD1.out).mono ?_; rintro e W2 h2; obtain ⟨v2, rfl, hR2, hB2⟩ := h2; have HR2 := AsM hR2; have HB2 := AsM hB2; clear hR2 hB2)))
 go_ret
 exact ⟨_, rfl, HR2.out, HB2.out⟩
def sum4 (s : Int) : List Int := [s % 256, s / 256 % 256, s / 65536 % 256, s / 16777216 % 256]
theorem rSum_calls (A : Option Addr) (c : Nat) (l : List Int) (w : World) (ha : Kd.C (Kd.int .u8) w A l.length l) (hb : ∀ x ∈ l, 0 ≤ x ∧ x < 256) :
  Calls Tryz.prog 28 #[.slice A l.length c] w (OwB (sum4 (cval (crcL l))) w) := by
 have CC : Aside0 (∀ W, Fr w W [] → Calls Tryz.prog 43 #[.slice A l.length c] W fun e w' => e = .returned (.int .u32 (cval (crcL l))) ∧ Fr W w' []) := ⟨fun W h => rCrc_calls A c l W (Kd.C_below ha h.below) hb⟩
 obtain ⟨s, hs⟩ : ∃ s, cval (crcL l) = s := ⟨_, rfl⟩
 have hlt := cval_lt (crcL l)
 rw [hs] at hlt CC ⊢
 have HE : Aside0 (s / 16777216 % 256 = s / 16777216) := ⟨by omega⟩
 clear ha hb hs
 go_enter Tryz.func28, Tryz.ntmps28
 go_wp2_with (first | (go_at_call 43; (refine (CC.out _ FQ).mono ?_; rintro e W1 ⟨rfl, hF⟩; have HF1 : Aside0 (Fr w W1 []) := ⟨Fr.trans (M := []) FQ hF (by simp)⟩; clear hF)))
 go_ret
 refine ⟨_, rfl, ?_, (show Fr w _ [] from FX HF1.out).below⟩
 have h := lit8_R (sum4 s) (by simp [sum4]) W1 w.heap.size HF1.out.size
 unfold sum4 at h ⊢
 rw [HE.out] at h ⊢
 exact h
def BufP (mk : Prop) (b : Nat) (w : World) (v : Value) (l : List Int) (e : Ending) (w' : World) : Prop := ∃ v', e = .returned v' ∧ Buf mk w' b v' l ∧ Gr w w' v v'
theorem oAppendUint_calls (mk : Prop) (b0 : Nat) (w : World) (v : Value) (l : List Int) (hB : Buf mk w b0 v l) (hF : b0 ≤ w.heap.size) {x : Nat} (hx : x < 18446744073709551616) (hl : l.length ≤ 130000000000000) :
  Calls Tryz.prog 10 #[v, .int .u64 x] w (BufP mk b0 w v (l ++ uvar x)) := by
 have HB := AsM hB
 have HF0 := AsM hF
 have HX : Aside0 (x < 128 ^ 10) := ⟨Nat.lt_of_lt_of_le hx (by decide)⟩
 have HL := AsM hl
 clear hB hF hl hx
 go_enter Tryz.func10, Tryz.ntmps10
 go_wp2
 go_loopg [0, 1] (11 : Nat) (fun (g : Nat) v0 v1 w' => ∃ (y : Nat) (k : List Int), v1 = .int .u64 y ∧ Aside0 (0 < g ∧ g ≤ 11 ∧ y < 128 ^ (g - 1)) ∧ Aside0 (k ++ uvar y = l ++ uvar x) ∧ Aside0 (k.length + g ≤ 130000000000011) ∧ Aside0 (Buf mk w' b0 v0 k) ∧ Aside0 (Gr w w' v v0))
 case atStart => exact ⟨x, l, rfl, ⟨⟨by omega, by omega, HX.out⟩⟩, ⟨rfl⟩, ⟨by have := HL.out; omega⟩, HB, ⟨Gr.refl _ _⟩⟩
 case round =>
  clear HB HX HL
  obtain ⟨y, k, rfl, HG, HE, HL, HB, HF⟩ := hrel
  have HSZ : Aside0 (b0 ≤ wr.heap.size) := ⟨Nat.le_trans HF0.out HF.out.size⟩
  obtain ⟨z, hz⟩ : ∃ z : Int, (y : Int) = z := ⟨_, rfl⟩
  rw [hz]
  have HZ := AsM hz
  by_cases hy : 127 < y
  ·have hd : decide (127 < z) = true := decide_eq_true (by omega)
   have ho := or128 y
   rw [hz] at ho
   obtain ⟨b, hb⟩ : ∃ b : Int, ((y % 128 + 128 : Nat) : Int) = b := ⟨_, rfl⟩
   rw [hb] at ho
   have HY : Aside0 (127 < y) := ⟨hy⟩
   have HBB := AsM hb
   have HO : Aside0 (Go.bits .or .u8 (z % 256) 128 = b) := ⟨ho⟩
   clear hy hz hb ho
   go_wp2_with (first | ((with_reducible refine gate_builtin (b := .append) (xs := #[.tmp 7, .tmp 11]) rfl ?_); at_builtin; refine wp_buf_one (mk := mk) (b0 := b0) rfl (.tmp 7) (.tmp 11) rfl (Go.bits .or .u8 (z % 256) 128) rfl rfl HB.out HSZ.out (by have := HL.out; omega) ?_; intro v1 w1 hB1 hF1; replace hF1 := HF.out.trans hF1; rw [HO.out, ← HBB.out] at hB1; have HB1 := AsM hB1; have HF1 := AsM hF1; clear hB1 hF1))
   have h1 := HG.out
   have h2 := HZ.out
   have h3 := HY.out
   have hg : 0 < gk - 1 := by
    rcases Nat.eq_zero_or_pos (gk - 1) with h | h
    ·rw [h] at h1; omega
    ·exact h
   have hq : y / 128 < 128 ^ (gk - 1 - 1) := by
    rw [Nat.div_lt_iff_lt_mul (by decide), ← Nat.pow_succ, show (gk - 1 - 1).succ = gk - 1 by omega]
    exact h1.2.2
   go_roundg (gk - 1)
   case measure => omega
   case rel => exact ⟨y / 128, _, by congr 1; omega, ⟨⟨hg, by omega, hq⟩⟩, ⟨by rw [← HE.out, uvar_big (by omega : ¬ y < 128)]; simp⟩, ⟨by have := HL.out; simp; omega⟩, HB1, HF1⟩
  ·have hd : decide (127 < z) = false := decide_eq_false (by omega)
   have hm : z % 256 = z := by omega
   have hu : uvar y = [z] := by rw [uvar_small (by omega), hz]
   have HM := AsM hm
   have HU := AsM hu
   have HG0 : 0 < gk := HG.out.1
   clear hy hz hm hu
   go_wp2_with (first | ((with_reducible refine gate_builtin (b := .append) (xs := #[.tmp 15, .tmp 18]) rfl ?_); at_builtin; refine wp_buf_one (mk := mk) (b0 := b0) rfl (.tmp 15) (.tmp 18) rfl (z % 256) rfl rfl HB.out HSZ.out (by have := HL.out; omega) ?_; intro v1 w1 hB1 hF1; replace hF1 := HF.out.trans hF1; rw [HM.out, ← HU.out, HE.out] at hB1; have HB1 := AsM hB1; have HF1 := AsM hF1; clear hB1 hF1))
   go_ret
   exact ⟨_, rfl, HB1.out, HF1.out⟩
theorem oUint_C {mk : Prop} {b0 : Nat} {v : Value} {l : List Int} {W : World} (x : Nat) (hx : x < 18446744073709551616) (hl : l.length ≤ 130000000000000) (hB : Buf mk W b0 v l) (hF : b0 ≤ W.heap.size) : Calls Tryz.prog 10 #[v, .int .u64 x] W (BufP mk b0 W v (l ++ uvar x)) := oAppendUint_calls mk b0 W v l hB hF hx hl
theorem oAppendInt_calls (mk : Prop) (b0 : Nat) (w : World) (v : Value) (l : List Int) (hB : Buf mk w b0 v l) (hF : b0 ≤ w.heap.size) {x : Int} (hx : -9223372036854775808 ≤ x ∧ x < 9223372036854775808) (hl : l.length ≤ 130000000000000) :
  Calls Tryz.prog 11 #[v, .int .i64 x] w (BufP mk b0 w v (l ++ uvar (zig x))) := by
 have hz := zig_lt hx
 have CZ : Aside0 (∀ W : World, Calls Tryz.prog 19 #[.int .i64 x] W fun e w' => e = .returned (.int .u64 ((zig x : Nat) : Int)) ∧ Drawn0 W w') := ⟨fun W => octet_zigzag.calls x _ W (pzig_f hx)⟩
 have CU : Aside0 (∀ W v, Buf mk W b0 v l → b0 ≤ W.heap.size → Calls Tryz.prog 10 #[v, .int .u64 ((zig x : Nat) : Int)] W (BufP mk b0 W v (l ++ uvar (zig x)))) := ⟨fun W v h1 h2 => oUint_C _ hz hl h1 h2⟩
 have HB := AsM hB
 have HF := AsM hF
 obtain ⟨z, hzz⟩ : ∃ z : Int, ((zig x : Nat) : Int) = z := ⟨_, rfl⟩
 rw [hzz] at CZ CU
 clear hB hF hl hx hz hzz
 go_enter Tryz.func11, Tryz.ntmps11
 go_wp2_with (first | (go_at_call 19; (refine (CZ.out _).mono ?_); rintro e w' ⟨rfl, ⟨nd, rfl⟩⟩) | (go_at_call 10; (refine (CU.out _ _ (HB.out.fr ((Fr.refl _ _).drewN _)) HF.out).mono ?_; rintro e W1 ⟨v1, rfl, hB1, hF1⟩; replace hF1 := (Gr.of_fr ((Fr.refl _ _).drewN _) v).trans hF1; have HB1 := AsM hB1; have HF1 := AsM hF1; clear hB1 hF1)))
 go_ret
 exact ⟨_, rfl, HB1.out, HF1.out⟩
theorem oAppendText_calls (mk : Prop) (b0 : Nat) (w : World) (v : Value) (l : List Int) (hB : Buf mk w b0 v l) (hF : b0 ≤ w.heap.size) (s : ByteArray) (hs : s.size ≤ 10000000000000) (hl : l.length ≤ 130000000000000) :
  Calls Tryz.prog 20 #[v, .string s] w (BufP mk b0 w v (l ++ uvar s.size ++ sB s)) := by
 have hsz : s.size < 18446744073709551616 := by omega
 have hul := uvar_len64 hsz
 have CU : Aside0 (∀ W v, Buf mk W b0 v l → b0 ≤ W.heap.size → Calls Tryz.prog 10 #[v, .int .u64 ((s.size : Nat) : Int)] W (BufP mk b0 W v (l ++ uvar s.size))) := ⟨fun W v h1 h2 => oUint_C _ hsz hl h1 h2⟩
 have HB := AsM hB
 have HF := AsM hF
 have HL : Aside0 ((l ++ uvar s.size).length + s.size ≤ 140737488355328) := ⟨by rw [List.length_append]; omega⟩
 clear hB hF hl hsz hul
 go_enter Tryz.func20, Tryz.ntmps20
 go_wp2_with (first | (go_at_call 10; (refine (CU.out _ _ HB.out HF.out).mono ?_; rintro e W1 ⟨v1, rfl, hB1, hF1⟩; have HB1 := AsM hB1; have HF1 := AsM hF1; clear hB1 hF1)) | (at_builtin; refine wp_buf_str (mk := mk) (b0 := b0) rfl (.tmp 9) (.tmp 10) rfl s rfl rfl HB1.out (Nat.le_trans HF.out HF1.out.size) HL.out ?_; intro v2 w2 hB2 hF2; replace hF2 := HF1.out.trans hF2; have HB2 := AsM hB2; have HF2 := AsM hF2; clear hB2 hF2))
 go_ret
 exact ⟨_, rfl, HB2.out, HF2.out⟩
theorem oAppendSum_calls (mk : Prop) (b0 : Nat) (w : World) (v : Value) (l : List Int) (hB : Buf mk w b0 v l) (hF : b0 ≤ w.heap.size) (s : Int) (hs : 0 ≤ s ∧ s < 4294967296) (hl : l.length ≤ 130000000000000) :
  Calls Tryz.prog 21 #[v, .int .u32 s] w (BufP mk b0 w v (l ++ sum4 s)) := by
 have HB := AsM hB
 have HF := AsM hF
 have HL := AsM hl
 have he : sum4 s = [s % 256, s / 256 % 256, s / 65536 % 256, s / 16777216] := by unfold sum4; rw [Int.emod_eq_of_lt (a := s / 16777216) (by omega) (by omega)]
 have HC : Aside0 (Kd.C (Kd.int .u8) (w.alloc (.cells #[.int .u8 (s % 256), .int .u8 (s / 256 % 256), .int .u8 (s / 65536 % 256), .int .u8 (s / 16777216)] 5)) (some ⟨w.heap.size, 0, none⟩) (sum4 s).length (sum4 s)) := ⟨by
  have h := (Kd.R_reads' (lit8_R (sum4 s) (by simp [sum4]) w 0 (Nat.zero_le _))).2.2
  rw [he] at h ⊢
  exact h⟩
 clear hB hF hl he
 go_enter Tryz.func21, Tryz.ntmps21
 go_wp2_with (first | ((with_reducible refine gate_builtin (b := .append) (xs := #[.tmp 5, .tmp 17]) rfl ?_); at_builtin; (refine wp_buf_app (mk := mk) (b0 := b0) (xs := sum4 s) rfl (.tmp 5) (.tmp 17) rfl rfl rfl rfl (HB.out.fr ((Fr.refl _ _).alloc _)) (Nat.le_trans HF.out (by simp)) HC.out (by have := HL.out; simp [sum4]; omega) ?_; intro v2 w2 hB2 hF2; replace hF2 := (Gr.of_fr ((Fr.refl _ _).alloc _) v).trans hF2; have HB2 := AsM hB2; have HF2 := AsM hF2; clear hB2 hF2)))
 go_ret
 exact ⟨_, rfl, HB2.out, HF2.out⟩
def secL (s : S50) : List Int := uvar s.f0.toNat ++ (uvar s.f1.length ++ s.f1)
def secsL (ss : List S50) : List Int := ss.flatMap secL
def sealB (m : List Int) (ss : List S50) : List Int := m ++ uvar ss.length ++ secsL ss
def sealL (m : List Int) (ss : List S50) : List Int := sealB m ss ++ sum4 (cval (crcL (sealB m ss)))
theorem frc {w w' : World} {L : List Nat} {p : Addr} {v : Value} (h : w.cell? p = some v) (hf : Fr w w' L) (hn : p.block ∉ L) : w'.cell? p = some v := by
 rw [World.cell?_of_block (hf.block p.block (World.block_lt_of_cell? w p h) hn)]
 exact h
theorem frd {w w' : World} {p : Addr} {v : Value} (h : w.cell? p = some v) (hf : Fr w w' []) : w'.cell? p = some v := frc h hf (by simp)
theorem sec_at {w : World} {A : Option Addr} {n : Nat} {xs : List S50} (h : Kd.C k50 w A n xs) (k : Nat) (hk : k < n) : ∃ ad A1 c1, A = some ad ∧ w.cell? (ad.add (k * 2)) = some (.int .i64 (xs.getD k z50).f0) ∧ w.cell? ⟨(ad.add (k * 2)).block, (ad.add (k * 2)).off + 1, none⟩ = some (.slice A1 (xs.getD k z50).f1.length c1) ∧ (xs.getD k z50).f1.length ≤ c1 ∧ Kd.C (Kd.int .u8) w A1 (xs.getD k z50).f1.length (xs.getD k z50).f1 := by
 obtain ⟨ad, A1, c1, e, h0, h1, h2, h3⟩ := at_T50 h (k : Int) (by omega) (by omega)
 simp only [rd_T50, Int.toNat_natCast] at h0 h1 h2 h3
 exact ⟨ad, A1, c1, e, h0, h1, h2, h3⟩
structure Secs (ss : List S50) : Prop where
 most : ss.length ≤ 64
 id : ∀ i, i < ss.length → (ss.getD i z50).f0 = ((i + 1 : Nat) : Int)
 byte : ∀ s ∈ ss, ∀ b ∈ s.f1, 0 ≤ b ∧ b < 256
 len : ∀ s ∈ ss, s.f1.length ≤ 1000000000000
theorem sB_nums {l : List Int} (h : ∀ b ∈ l, 0 ≤ b ∧ b < 256) : sB (strOfNums l) = l := by
 rw [sB, strOfNums_data, List.map_map]
 refine (List.map_congr_left (fun b hb => ?_)).trans (List.map_id l)
 obtain ⟨h0, h1⟩ := h b hb
 simp only [Function.comp]
 show ((UInt8.ofNat b.toNat).toNat : Int) = b
 rw [UInt8.toNat_ofNat']
 omega
theorem secL_len {s : S50} (h0 : 0 ≤ s.f0 ∧ s.f0 < 18446744073709551616) (h : s.f1.length ≤ 1000000000000) : (secL s).length ≤ 1000000000022 := by
 have h1 := uvar_len64 (x := s.f0.toNat) (by omega)
 have h2 := uvar_len64 (x := s.f1.length) (by omega)
 simp only [secL, List.length_append]
 omega
theorem secsL_len : ∀ (ss : List S50), (∀ s ∈ ss, (secL s).length ≤ 1000000000022) → (secsL ss).length ≤ ss.length * 1000000000022
 | [], _ => by simp [secsL]
 | s :: ss, h => by
  have h1 := secsL_len ss (fun x hx => h x (List.mem_cons_of_mem _ hx))
  have h2 := h s List.mem_cons_self
  simp only [secsL, List.flatMap_cons, List.length_append, List.length_cons] at h1 ⊢
  omega
theorem secsL_snoc (ss : List S50) (i : Nat) (hi : i < ss.length) : secsL (ss.take (i + 1)) = secsL (ss.take i) ++ secL (ss.getD i z50) := by
 rw [List.take_add_one, List.getElem?_eq_getElem hi, List.getD_eq_getElem?_getD, List.getElem?_eq_getElem hi, secsL, List.flatMap_append]
 simp [secsL]
theorem sealB_byte {m : ByteArray} {ss : List S50} (hs : Secs ss) : ∀ b ∈ sealB (sB m) ss, 0 ≤ b ∧ b < 256 := by
 intro b hb
 simp only [sealB, List.mem_append] at hb
 have hm := hs.most
 rcases hb with (hb | hb) | hb
 ·obtain ⟨x, _, rfl⟩ := List.mem_map.1 hb
  have := x.toNat_lt
  omega
 ·exact uvar_byte64 (by omega) b hb
 ·obtain ⟨s, hs1, hb⟩ := List.mem_flatMap.1 hb
  have h1 := hs.len s hs1
  obtain ⟨i, hi, rfl⟩ := List.mem_iff_getElem.1 hs1
  have h2 := hs.id i hi
  rw [List.getD_eq_getElem?_getD, List.getElem?_eq_getElem hi] at h2
  simp only [Option.getD_some] at h2
  simp only [secL, List.mem_append] at hb
  rcases hb with hb | hb | hb
  ·exact uvar_byte64 (by omega) b hb
  ·exact uvar_byte64 (by omega) b hb
  ·exact hs.byte _ hs1 b hb
theorem sealB_len {m : ByteArray} (hm : m.size = 8) {ss : List S50} (hs : Secs ss) (i : Nat) : (sB m ++ uvar ss.length ++ secsL (ss.take i)).length ≤ 65000000002000 := by
 have hmo := hs.most
 have h1 := uvar_len64 (x := ss.length) (by omega)
 have h2 := secsL_len (ss.take i) (fun s hs1 => by
  have hs1 := List.mem_of_mem_take hs1
  obtain ⟨i, hi, rfl⟩ := List.mem_iff_getElem.1 hs1
  have h2 := hs.id i hi
  rw [List.getD_eq_getElem?_getD, List.getElem?_eq_getElem hi] at h2
  simp only [Option.getD_some] at h2
  exact secL_len (by omega) (hs.len _ hs1))
 have h3 : (ss.take i).length ≤ 64 := by rw [List.length_take]; omega
 have h4 := sB_len m
 simp only [List.length_append]
 omega
theorem oSeal_calls (A : Option Addr) (c : Nat) (ss : List S50) (m : ByteArray) (hm : m.size = 8) (w : World) (hr : Kd.C k50 w A ss.length ss) (hs : Secs ss) :
  Calls Tryz.prog 13 #[.string m, .slice A ss.length c] w fun e w' => ∃ v, e = .returned (.tuple #[v, .int .i64 0]) ∧ Buf True w' w.heap.size v (sealL (sB m) ss) ∧ Fr w w' [] := by
 have HR := AsM hr
 have HS := AsM hs
 have hmo := hs.most
 have HLN : Aside0 (∀ i, (sB m ++ uvar ss.length ++ secsL (ss.take i)).length ≤ 65000000002000) := ⟨sealB_len hm hs⟩
 obtain ⟨v0, W0, hcv, hB0, hF0⟩ : ∃ v0 W0, (convert 9 32 (.string m)).run Tryz.prog w = .ok v0 W0 ∧ Buf True W0 w.heap.size v0 (sB m) ∧ Fr w W0 [] := ⟨_, _, run_conv w m, buf_conv w m (by omega), fr_conv _ _ _⟩
 have HB0 := AsM hB0
 have HF0 := AsM hF0
 have CU : Aside0 (∀ W v l x, Buf True W w.heap.size v l → Fr w W [] → x < 18446744073709551616 → l.length ≤ 130000000000000 → Calls Tryz.prog 10 #[v, .int .u64 ((x : Nat) : Int)] W (BufP True w.heap.size W v (l ++ uvar x))) := ⟨fun W v l x h1 h2 h3 h4 => oUint_C x h3 h4 h1 h2.size⟩
 have CT : Aside0 (∀ W v l s, Buf True W w.heap.size v l → Fr w W [] → s.size ≤ 10000000000000 → l.length ≤ 130000000000000 → Calls Tryz.prog 20 #[v, .string s] W (BufP True w.heap.size W v (l ++ uvar s.size ++ sB s))) := ⟨fun W v l s h1 h2 h3 h4 => oAppendText_calls True _ W v l h1 h2.size s h3 h4⟩
 have CR : Aside0 (∀ (W : World) (A : Option Addr) (c : Nat), Kd.C (Kd.int .u8) W A (sealB (sB m) ss).length (sealB (sB m) ss) → Calls Tryz.prog 22 #[.slice A (sealB (sB m) ss).length c] W fun e w' => e = .returned (.int .u32 (cval (crcL (sealB (sB m) ss)))) ∧ Fr W w' []) := ⟨fun W A c h => crc_calls A c _ W h (sealB_byte hs)⟩
 have CS : Aside0 (∀ W v l, Buf True W w.heap.size v l → Fr w W [] → l.length ≤ 130000000000000 → Calls Tryz.prog 21 #[v, .int .u32 (cval (crcL (sealB (sB m) ss)))] W (BufP True w.heap.size W v (l ++ sum4 (cval (crcL (sealB (sB m) ss)))))) := ⟨fun W v l h1 h2 h4 => oAppendSum_calls True _ W v l h1 h2.size _ (cval_lt _) h4⟩
 have HSL : Aside0 (sealL (sB m) ss = sealB (sB m) ss ++ sum4 (cval (crcL (sealB (sB m) ss)))) := ⟨rfl⟩
 have HSB : Aside0 (sB m ++ uvar ss.length ++ secsL ss = sealB (sB m) ss) := ⟨rfl⟩
 obtain ⟨crc, hcrc⟩ : ∃ crc, cval (crcL (sealB (sB m) ss)) = crc := ⟨_, rfl⟩
 rw [hcrc] at CR CS HSL
 have hml : (m.size : Int) = 8 := by omega
 have HM8 := sB_len m
 clear hr hs hB0 hF0 hcrc
 go_enter Tryz.func13, Tryz.ntmps13
 go_wp2_with (first | (go_at_call 10; (refine (CU.out _ _ _ ss.length HB0.out HF0.out (by omega) (by omega)).mono ?_; rintro e W1 ⟨v1, rfl, hB1, hG1⟩; have HB1 := AsM hB1; have HF1 : Aside0 (Fr w W1 []) := ⟨hG1.fr HB0.out HF0.out⟩; clear hB1 hG1)))
 clear hcv HB0 HF0
 go_loopg [6, 7, 24] ss.length (fun kq s6 s7 s24 wr => ∃ (i : Nat), s7 = .int .i64 i ∧ s24 = .int .i64 i ∧ i ≤ ss.length ∧ Aside0 (ss.length - i ≤ kq) ∧ Aside0 (Buf True wr w.heap.size s6 (sB m ++ uvar ss.length ++ secsL (ss.take i))) ∧ Aside0 (Fr w wr []))
 case atStart => exact ⟨0, rfl, rfl, Nat.zero_le _, ⟨Nat.le_refl _⟩, ⟨by simpa [secsL] using HB1.out⟩, HF1⟩
 case round =>
  clear HB1 HF1
  obtain ⟨i, rfl, rfl, hi, HM, HB, HF⟩ := hrel
  by_cases hil : i < ss.length
  ·have n3 : decide (i < ss.length) = true := by simpa using hil
   have p0 : (0 : Int) ≤ (i : Int) := by omega
   have p1 : (i : Int) < ss.length := by omega
   obtain ⟨ad, B, cb, rfl, g0, g1, hcap, hC⟩ := sec_at HR.out i hil
   obtain ⟨s, hsg⟩ : ∃ s, ss.getD i z50 = s := ⟨_, rfl⟩
   have hid := HS.out.id i hil
   have hmem : s ∈ ss := by rw [← hsg, List.getD_eq_getElem?_getD, List.getElem?_eq_getElem hil]; exact List.getElem_mem _
   have HBY := AsM (HS.out.byte s hmem)
   have hbl := HS.out.len s hmem
   rw [hsg] at g0 g1 hcap hC hid
   have HSN : Aside0 (secsL (ss.take (i + 1)) = secsL (ss.take i) ++ secL s) := ⟨by rw [secsL_snoc ss i hil, hsg]⟩
   obtain ⟨d, body⟩ := s
   simp only at g0 g1 hcap hC hid hbl HBY
   subst hid
   obtain ⟨j, hj⟩ : ∃ j : Nat, i + 1 = j := ⟨_, rfl⟩
   have hj64 : j ≤ 64 := by omega
   have HJ := AsM hj
   rw [hj] at g0 HSN
   have q0 := frd g0 HF.out
   have q1 := frd g1 HF.out
   have HCC := AsM hC
   have HSZ : Aside0 (sB (strOfNums body) = body ∧ (strOfNums body).size = body.length) := ⟨⟨sB_nums HBY.out, strOfNums_size body⟩⟩
   obtain ⟨st, hst⟩ : ∃ st, strOfNums body = st := ⟨_, rfl⟩
   rw [hst] at HSZ
   have HST := AsM hst
   have n2 : decide ((255 : Int) < (j : Int)) = false := by simp; omega
   have n1' : decide (j ≤ i) = false := by simp; have := HJ.out; omega
   have n2' : decide (255 < j) = false := by simp; omega
   have hut := Tryz.underlying50
   have LI := AsM (HLN.out i)
   clear hC hj hsg hmem g0 g1 hst
   go_wp2_with (first | (go_at_call 10; (refine (CU.out _ _ _ j (HB.out.fr ((Fr.refl _ _).alloc _)) (HF.out.alloc _) (by omega) (by have := LI.out; omega)).mono ?_; rintro e W1 ⟨v1, rfl, hB1, hG1⟩; have HB1 := AsM hB1; have HF1 : Aside0 (Fr w W1 []) := ⟨hG1.fr (HB.out.fr ((Fr.refl _ _).alloc _)) (HF.out.alloc _)⟩; have hk := hG1.late HB.out (blk_newN rfl) (Nat.le_refl _); obtain ⟨k0, k1⟩ := cc2 hk; have hcv : (convert 32 9 (.slice B body.length cb)).run Tryz.prog W1 = .ok (.string st) W1 := HST.out ▸ Kd.C_string Tryz.underlying32 Tryz.underlying5 Tryz.underlying9 (Kd.C_below HCC.out HF1.out.below); clear hB1 hG1)) | (go_at_call 20; (refine (CT.out _ _ _ st HB1.out HF1.out (by have := HSZ.out.2; omega) (by have := LI.out; have := uvar_len64 (x := j) (by omega); simp only [List.length_append] at *; omega)).mono ?_; rintro e W2 ⟨v2, rfl, hB2, hG2⟩; have HB2 := AsM hB2; have HF2 : Aside0 (Fr w W2 []) := ⟨hG2.fr HB1.out HF1.out⟩; clear hB2 hG2)))
   go_roundg (ss.length - j)
   case measure => have := HM.out; have := HJ.out; omega
   case rel => exact ⟨j, rfl, by have := HJ.out; go_num, by have := HJ.out; omega, ⟨Nat.le_refl _⟩, ⟨by have h := HB2.out; rw [HSZ.out.1, HSZ.out.2] at h; rw [HSN.out]; simpa [secL, List.append_assoc] using h⟩, HF2⟩
  ·obtain rfl : i = ss.length := by omega
   have n3 : decide (ss.length < ss.length) = false := by simp
   have hb := HB.out
   rw [List.take_of_length_le (Nat.le_refl _), HSB.out] at hb
   obtain ⟨A6, c6, rfl, hc6, hC6⟩ := hb.reads
   have HB6 := AsM hb
   have HC6 := AsM hC6
   have HL6 : Aside0 ((sealB (sB m) ss).length ≤ 130000000000000) := ⟨by have := HLN.out ss.length; rw [List.take_of_length_le (Nat.le_refl _), HSB.out] at this; omega⟩
   clear hb hC6 HB
   go_wp2_with (first | (go_at_call 22; (refine (CR.out _ _ _ HC6.out).mono ?_; rintro e W1 ⟨rfl, hF⟩; have HF1 : Aside0 (Fr w W1 []) := ⟨Fr.trans HF.out hF (by simp)⟩; have HB1 := AsM (HB6.out.fr hF); clear hF)) | (go_at_call 21; (refine (CS.out _ _ _ HB1.out HF1.out HL6.out).mono ?_; rintro e W2 ⟨v2, rfl, hB2, hG2⟩; have HB2 := AsM hB2; have HF2 : Aside0 (Fr w W2 []) := ⟨hG2.fr HB1.out HF1.out⟩; clear hB2 hG2)))
   go_ret2
   exact ⟨_, rfl, by rw [HSL.out]; exact HB2.out, HF2.out⟩
end Go.Proofs.YtpoehkacfmljcaaGreatDoor.H
