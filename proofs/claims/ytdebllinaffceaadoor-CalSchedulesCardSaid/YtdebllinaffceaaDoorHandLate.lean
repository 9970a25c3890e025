import Derived.Test.YtdebllinaffceaaDoorVWords
import Derived.Test.YtdebllinaffceaaDoorMx0
import Derived.Deep.AppendLies
import Derived.LoopN
namespace Go.Proofs.YtdebllinaffceaaDoor.M
open Go.RowKit Go.Proofs.YtdebllinaffceaaDoorW.PrintWords Go.Proofs.YtdebllinaffceaaDoorW.PrintLast

theorem la_low {W W' : World} {base : Nat} {e : TypeId} {size : Nat} {v : Value} {n : Nat} {xs : List Value} (h : W.ownsRow base e size v n xs) (hb : ∀ k, k < W.heap.size → W'.heap[k]? = W.heap[k]?) : W'.ownsRow base e size v n xs := by
  refine ⟨h.1, ?_⟩
  rcases h.2 with hn | ⟨g, cap, cur, rfl, h1, hgg, rest⟩
  · exact .inl hn
  · exact .inr ⟨g, cap, cur, rfl, h1, (hb g (Array.getElem?_eq_some_iff.1 hgg).1).trans hgg, rest⟩
theorem la_lt {W : World} {base : Nat} {e : TypeId} {size : Nat} {v : Value} {n : Nat} {xs : List Value} (h : W.ownsRow base e size v n xs) : ∀ k, v.ownBlock = some k → k < W.heap.size := by
  intro k hk
  rcases h.2 with ⟨rfl, _⟩ | ⟨g, cap, cur, rfl, _, hgg, _⟩
  · simp [Value.ownBlock] at hk
  · obtain rfl : g = k := by simpa [Value.ownBlock] using hk
    exact (Array.getElem?_eq_some_iff.1 hgg).1
/-- Another row's store leaves a row as it is. -/
theorem la_put_far {W : World} {base : Nat} {e : TypeId} {size : Nat} {v : Value} {n : Nat} {xs : List Value} (h : W.ownsRow base e size v n xs) {g j : Nat} (hne : v.ownBlock ≠ some g) (u : Value) : (W.setCell ⟨g, j, none⟩ u).ownsRow base e size v n xs := by
  refine ⟨h.1, ?_⟩
  rcases h.2 with hn | ⟨g', cap, cur, rfl, h1, hgg, rest⟩
  · exact .inl hn
  · exact .inr ⟨g', cap, cur, rfl, h1, (Below.heap_setCell W ⟨g, j, none⟩ u g' (fun e => hne (by simp [Value.ownBlock, e]))).trans hgg, rest⟩
/-- What a row's element is. -/
theorem la_at {W : World} {base n : Nat} {v : Value} {xs : List Int} (h : W.ownsRow base 3 1 v n (xs.map (Value.int .i64))) {j : Nat} (hj : j < n) :
    ∃ g cap z, v = .slice (some ⟨g, 0, none⟩) n cap ∧ base ≤ g ∧ xs[j]? = some z ∧ W.cell? ⟨g, j, none⟩ = some (.int .i64 z) ∧ W.frozen? ⟨g, j, none⟩ = false := by
  have hlen : xs.length = n := by have := h.1; simpa using this
  rcases h.2 with ⟨_, h0⟩ | ⟨g, cap, cur, rfl, h1, hgg, h2, h3, h4, h5⟩
  · omega
  · have hkz : j < xs.length := by omega
    have e : cur[j]? = some (Value.int .i64 xs[j]) := by
      have e1 : (cur.toList.take (n * 1))[j]? = (xs.map (Value.int .i64))[j]? := by rw [h5]
      rw [List.getElem?_take_of_lt (by omega)] at e1
      simpa [List.getElem?_eq_getElem hkz] using e1
    exact ⟨g, cap, xs[j], rfl, h1, List.getElem?_eq_getElem hkz, by simp [World.cell?, hgg, e], by simp [World.frozen?, hgg]⟩
theorem la_row {W : World} {base : Nat} {v : Value} {xs : List Int} (h : W.ownsRow base 3 1 v xs.length (xs.map (Value.int .i64))) : Kd.R (Kd.int .i64) 3 W base (fun _ => True) v xs :=
  Kd.R_of_own (enc := Value.int .i64) (h1 := fun _ => rfl) h (fun _ _ => trivial)
/-- A row's own store. -/
theorem la_put {W : World} {base n g cap : Nat} {xs : List Int} (h : W.ownsRow base 3 1 (.slice (some ⟨g, 0, none⟩) n cap) n (xs.map (Value.int .i64))) (j : Nat) (c : Int) :
    (W.setCell ⟨g, j, none⟩ (.int .i64 c)).ownsRow base 3 1 (.slice (some ⟨g, 0, none⟩) n cap) n ((xs.set j c).map (Value.int .i64)) := by
  have hlen : xs.length = n := by have := h.1; simpa using this
  subst hlen
  have hP := (Kd.R_putg (la_row h) (j : Int) c).1
  rw [Int.toNat_natCast] at hP
  have := Kd.own_of_R hP
  simpa [encs] using this

/-- One number more: and each row that lies in no block of its own, or is no longer than what was there, stays. -/
theorem la_append {ty : TypeId} (w : World) (base n : Nat) (v : Value) (xs : List Value) (hown : w.ownsRow base 3 1 v n xs) (ad : Addr) (u : Value) (c : Nat) (hu : w.cell? ad = some u) (h1 : u.oneCell' = true)
    (h63 : n + 1 ≤ maxLen) (hbytes : (n + 1) * 8 ≤ 140737488355328) (hbase : base ≤ w.heap.size) :
    ∃ v' w', (Builtin.append_ #[45, 45] ty #[v, .slice (some ad) 1 c]).run Tryd.prog w = .ok v' w' ∧ w'.ownsRow base 3 1 v' (n + 1) (xs ++ [u]) ∧ w.grownBy w' v.ownBlock ∧ (v'.ownBlock = v.ownBlock ∨ v'.ownBlock = some w.heap.size) ∧
      (∀ b2 v2 m2 ys, w.ownsRow b2 3 1 v2 m2 ys → (v2.ownBlock = v.ownBlock → m2 ≤ n) → w'.ownsRow b2 3 1 v2 m2 ys) := by
  obtain ⟨i0, hi, hz, hs1, hs8⟩ := info_parts info3
  have hnews : ∀ j x, [u][j]? = some x → w.cell? (ad.add j) = some x := by
    intro j x hx
    cases j with
    | zero => simp at hx; subst hx; simpa [Addr.add] using hu
    | succ j => simp at hx
  have hone : ∀ x ∈ [u], x.oneCell' = true := by intro x hx; simp at hx; subst hx; exact h1
  obtain ⟨v', w', hr, h2, h3, _, h5⟩ := run_append_own_at (P := Tryd.prog) w base 45 ty 3 i0 _ 1 8 Tryd.underlying45 hi hz hs1 hs8 rfl (by decide) v n xs hown ad 1 c [u] rfl hnews hone h63 hbytes hbase
  refine ⟨v', w', hr, h2, h3, h5, ?_⟩
  intro b2 v2 m2 ys hy hm
  by_cases same : v2.ownBlock = v.ownBlock
  case neg => exact hy.kept h3 (.inr same)
  case pos =>
    rcases hown.2 with ⟨rfl, _⟩ | ⟨g, cap, cur, rfl, hbg, hgg, hnc, hcm, hcs, htk⟩
    · exact hy.kept h3 (.inl same)
    · by_cases hroom : n + 1 ≤ cap
      · have hfit : n * i0.size + [u].length ≤ cur.size := by rw [hs1]; simp; omega
        have hr' := run_append_room (P := Tryd.prog) w 45 ty 3 i0 Tryd.underlying45 hi g n cap cur hgg ad 1 c [u] (by rw [hs1]; rfl) hnews hone hroom hfit
        rw [hr] at hr'
        injection hr' with _ hw
        subst hw
        refine ⟨hy.1, ?_⟩
        rcases hy.2 with hn | ⟨g2, cap2, cur2, rfl, hb2, hg2, hnc2, hcm2, hcs2, htk2⟩
        · exact .inl hn
        · obtain rfl : g2 = g := by simpa [Value.ownBlock] using same
          obtain rfl : cur2 = cur := by
            have := hg2.symm.trans hgg
            simpa using this
          have hle : m2 ≤ n := hm same
          refine .inr ⟨g2, cap2, _, rfl, hb2, setRow_heap w g2 cur2 _ 3 _ hgg, hnc2, hcm2, ?_, ?_⟩
          · simp only [List.size_toArray, List.length_append, List.length_take, List.length_drop, Array.length_toList, hs1]
            simp only [List.length_cons, List.length_nil]
            omega
          · rw [← htk2, List.append_assoc, List.take_append_of_le_length (by simp [hs1]; omega), List.take_take, hs1]
            congr 1
            omega
      · have holds : ∀ j x, xs[j]? = some x → w.cell? ((⟨g, 0, none⟩ : Addr).add j) = some x := hown.cells (g := g) rfl
        have hr' := run_append_grow (P := Tryd.prog) w 45 ty 3 i0 _ Tryd.underlying45 hi hz ⟨g, 0, none⟩ n cap xs (by rw [hs1]; exact hown.1) holds ad 1 c [u] (by rw [hs1]; rfl) hnews (by omega) (by simp only [maxLen] at h63; omega) (growslice_fits (by omega) (by rw [hs8]; exact hbytes))
        rw [hr] at hr'
        injection hr' with _ hw
        subst hw
        exact la_low hy (fun k hk => Below.heap_alloc w.drew _ k hk)

/-- .. at the list of a plain region's operations. -/
theorem wpList_la {ops : Array Oper} {rest : List Oper} {o : Oper} {a : Act} {Q : Exit → Act → World → Prop} (w : World) (hgd : o.guard = none) (s x : Operand)
    (ho : o.op = .call { callee := .builtin .append, args := #[s, x], argTypes := #[45, 45] })
    (base n : Nat) (v : Value) (xs : List Value) (hs : a.eval s = v) (hown : w.ownsRow base 3 1 v n xs) (ad : Addr) (u : Value) (c : Nat) (hx : a.eval x = .slice (some ad) 1 c) (hu : w.cell? ad = some u) (h1 : u.oneCell' = true)
    (h63 : n + 1 ≤ maxLen) (hbytes : (n + 1) * 8 ≤ 140737488355328) (hbase : base ≤ w.heap.size)
    (h : ∀ v' w', w'.ownsRow base 3 1 v' (n + 1) (xs ++ [u]) → w.grownBy w' v.ownBlock → (v'.ownBlock = v.ownBlock ∨ v'.ownBlock = some w.heap.size) → (∀ b2 v2 m2 ys, w.ownsRow b2 3 1 v2 m2 ys → (v2.ownBlock = v.ownBlock → m2 ≤ n) → w'.ownsRow b2 3 1 v2 m2 ys) → wpList Tryd.prog ops Q rest (a.put o.dst v') w') : wpList Tryd.prog ops Q (o :: rest) a w :=
  wpList_plain hgd fun _ hK => by
    obtain ⟨v', w', hr, h2, h3, h4, h5⟩ := la_append (ty := o.type) w base n v xs hown ad u c hu h1 h63 hbytes hbase
    unfold Oper.wp execOp
    simp only [ho, resolve, invoke, builtin, Sem.run_bind, Sem.run_pure, Result.andThen_ok, List.map_toArray, List.map_cons, List.map_nil, hs, hx, hr]
    exact hK _ _ (h v' w' h2 h3 h4 h5)

/-- The three lists and the list of them. -/
structure Three (base gL : Nat) (va vb vc : Value) (na nb nc : Nat) (xa xb xc : List Int) (W : World) : Prop where
  a : W.ownsRow base 3 1 va na (xa.map (Value.int .i64))
  b : W.ownsRow base 3 1 vb nb (xb.map (Value.int .i64))
  c : W.ownsRow base 3 1 vc nc (xc.map (Value.int .i64))
  l : W.heap[gL]? = some (.cells #[va, vb, vc] 45 (0, 0))
theorem Three.cells {base gL : Nat} {va vb vc : Value} {na nb nc : Nat} {xa xb xc : List Int} {W : World} (h : Three base gL va vb vc na nb nc xa xb xc W) : W.cell? ⟨gL, 0, none⟩ = some va ∧ W.cell? ⟨gL, 1, none⟩ = some vb ∧ W.cell? ⟨gL, 2, none⟩ = some vc := by
  simp [World.cell?, h.l]
theorem la_fill {xs : List Int} {j : Nat} {c : Int} (hj : j < xs.length) (hf : ∀ m, m < j → xs[m]? = some c) : ∀ m, m < j + 1 → (xs.set j c)[m]? = some c := by
  intro m hm
  by_cases e : m = j
  · subst e; rw [List.getElem?_set_self hj]
  · rw [List.getElem?_set_ne (by omega)]; exact hf m (by omega)
theorem la_full {xs : List Int} {n : Nat} {c : Int} (hl : xs.length = n) (hf : ∀ m, m < n → xs[m]? = some c) : xs = List.replicate n c := by
  apply List.ext_getElem?
  intro m
  by_cases hm : m < n
  · rw [hf m hm, List.getElem?_replicate, if_pos hm]
  · rw [List.getElem?_eq_none (by omega), List.getElem?_eq_none (by simp; omega)]
theorem la_len {W : World} {base n : Nat} {v : Value} {xs : List Int} (h : W.ownsRow base 3 1 v n (xs.map (Value.int .i64))) : xs.length = n := by have := h.1; simpa using this
theorem la_cond {W : World} {base m n : Nat} {v u : Value} {ys : List Value} (h : W.ownsRow base 3 1 v m ys) (hne : ∀ g, u.ownBlock = some g → v.ownBlock ≠ some g) : v.ownBlock = u.ownBlock → m ≤ n := by
  intro same
  rcases h.2 with ⟨_, h0⟩ | ⟨g, cap, cur, rfl, _⟩
  · omega
  · exact absurd rfl (hne g (by rw [← same]; rfl))
theorem la_types {W : World} {b1 b2 n m s1 s2 : Nat} {v u : Value} {xs ys : List Value} {e1 e2 : TypeId} (h : W.ownsRow b1 e1 s1 v n xs) (k : W.ownsRow b2 e2 s2 u m ys) (he : e1 ≠ e2) : v.ownBlock = none ∨ v.ownBlock ≠ u.ownBlock := by
  rcases h.2 with ⟨rfl, _⟩ | ⟨g, cap, cur, rfl, _, hg, _⟩
  · exact .inl rfl
  · right
    intro same
    rcases k.2 with ⟨rfl, _⟩ | ⟨g2, cap2, cur2, rfl, _, hg2, _⟩
    · simp [Value.ownBlock] at same
    · obtain rfl : g = g2 := by simpa [Value.ownBlock] using same
      have := hg.symm.trans hg2
      simp at this
      exact he this.2
theorem la_info45 : (Tryd.prog.info? 45).map (fun i => (i.zero, i.size, i.bytes)) = some (some (.slice none 0 0), 1, 24) := by kernel_rfl

/-- The lists as they stand while the grown ones come. -/
structure Ph2 (base gL : Nat) (va vb vc : Value) (na nb nc : Nat) (gr : Value) (X : List (Value × Nat × Int)) (W : World) : Prop where
  t : Three base gL va vb vc na nb nc (List.replicate na (-10)) (List.replicate nb (-11)) (List.replicate nc (-12)) W
  x : ∀ p ∈ X, W.ownsRow base 3 1 p.1 p.2.1 ((List.replicate p.2.1 p.2.2).map (Value.int .i64))
  g : W.ownsRow (gL + 1) 45 1 gr X.length (X.map (fun p => p.1))
theorem Ph2.low {base gL : Nat} {va vb vc : Value} {na nb nc : Nat} {gr : Value} {X : List (Value × Nat × Int)} {W W' : World} (h : Ph2 base gL va vb vc na nb nc gr X W) (hb : ∀ k, k < W.heap.size → W'.heap[k]? = W.heap[k]?) : Ph2 base gL va vb vc na nb nc gr X W' :=
  ⟨⟨la_low h.t.a hb, la_low h.t.b hb, la_low h.t.c hb, (hb gL (Array.getElem?_eq_some_iff.1 h.t.l).1).trans h.t.l⟩, fun p hp => la_low (h.x p hp) hb, la_low h.g hb⟩
theorem Ph2.append {base gL : Nat} {va vb vc : Value} {na nb nc : Nat} {gr : Value} {X : List (Value × Nat × Int)} {W w' : World} (h : Ph2 base gL va vb vc na nb nc gr X W) {u : Value} {n : Nat} {ys : List Value} (hu : W.ownsRow base 3 1 u n ys) (hg : W.grownBy w' u.ownBlock)
    (hK : ∀ b2 v2 m2 ys, W.ownsRow b2 3 1 v2 m2 ys → (v2.ownBlock = u.ownBlock → m2 ≤ n) → w'.ownsRow b2 3 1 v2 m2 ys)
    (ca : va.ownBlock = u.ownBlock → na ≤ n) (cb : vb.ownBlock = u.ownBlock → nb ≤ n) (cc : vc.ownBlock = u.ownBlock → nc ≤ n) (cx : ∀ p ∈ X, p.1.ownBlock = u.ownBlock → p.2.1 ≤ n) (hl : u.ownBlock ≠ some gL) : Ph2 base gL va vb vc na nb nc gr X w' :=
  ⟨⟨hK _ _ _ _ h.t.a ca, hK _ _ _ _ h.t.b cb, hK _ _ _ _ h.t.c cc, (hg.block gL (Array.getElem?_eq_some_iff.1 h.t.l).1 (fun e => hl e.symm)).trans h.t.l⟩, fun p hp => hK _ _ _ _ (h.x p hp) (cx p hp), h.g.kept hg (la_types h.g hu (by decide))⟩
theorem Ph2.grown {base gL : Nat} {va vb vc : Value} {na nb nc : Nat} {gr gr' : Value} {X : List (Value × Nat × Int)} {W w' : World} (h : Ph2 base gL va vb vc na nb nc gr X W) {x : Value} {n : Nat} {c : Int} (hx : W.ownsRow base 3 1 x n ((List.replicate n c).map (Value.int .i64)))
    (hg : W.grownBy w' gr.ownBlock) (ho : w'.ownsRow (gL + 1) 45 1 gr' (X.length + 1) (X.map (fun p => p.1) ++ [x])) : Ph2 base gL va vb vc na nb nc gr' (X ++ [(x, n, c)]) w' := by
  have hl : gr.ownBlock ≠ some gL := by
    intro e
    rcases h.g.2 with ⟨rfl, _⟩ | ⟨g, cap, cur, rfl, h1, _⟩
    · simp [Value.ownBlock] at e
    · have : g = gL := by simpa [Value.ownBlock] using e
      omega
  have k3 : ∀ {m : Nat} {v : Value} {ys : List Value}, W.ownsRow base 3 1 v m ys → w'.ownsRow base 3 1 v m ys := fun hv => hv.kept hg (la_types hv h.g (by decide))
  refine ⟨⟨k3 h.t.a, k3 h.t.b, k3 h.t.c, (hg.block gL (Array.getElem?_eq_some_iff.1 h.t.l).1 (fun e => hl e.symm)).trans h.t.l⟩, ?_, ?_⟩
  · intro p hp
    rcases List.mem_append.1 hp with hp | hp
    · exact k3 (h.x p hp)
    · simp at hp; subst hp; exact k3 hx
  · simpa using ho
/-- A grown list's element is the list that was put there. -/
theorem la_gr {W : World} {base n : Nat} {v : Value} {xs : List Value} (h : W.ownsRow base 45 1 v n xs) (h0 : 0 < n) : ∃ g cap, v = .slice (some ⟨g, 0, none⟩) n cap ∧ ∀ j x, xs[j]? = some x → W.cell? ⟨g, j, none⟩ = some x := by
  rcases h.2 with ⟨_, h1⟩ | ⟨g, cap, cur, rfl, h1, hgg, h2, h3, h4, h5⟩
  · omega
  · refine ⟨g, cap, rfl, fun j x hx => ?_⟩
    have hj : j < n := by have := (List.getElem?_eq_some_iff.1 hx).1; have := h.1; omega
    have e1 : (cur.toList.take (n * 1))[j]? = xs[j]? := by rw [h5]
    rw [List.getElem?_take_of_lt (by omega), hx] at e1
    have e : cur[j]? = some x := by simpa using e1
    simp [World.cell?, hgg, e]
theorem la_rep (n : Nat) (c : Int) : (List.replicate (n + 1) c).map (Value.int .i64) = (List.replicate n c).map (Value.int .i64) ++ [Value.int .i64 c] := by simp [List.replicate_succ']
theorem la_new (W : World) (v : Value) (t : TypeId) : (W.alloc (.cells #[v] t)).cell? ⟨W.heap.size, 0, none⟩ = some v := by
  have h := heap_alloc_new W (.cells #[v] t (0, 0))
  simp only [World.cell?]
  rw [h]
  rfl
theorem la_base {W : World} {base : Nat} {e : TypeId} {size : Nat} {v : Value} {n : Nat} {xs : List Value} (h : W.ownsRow base e size v n xs) : ∀ k, v.ownBlock = some k → base ≤ k := by
  intro k hk
  rcases h.2 with ⟨rfl, _⟩ | ⟨g, cap, cur, rfl, h1, _⟩
  · simp [Value.ownBlock] at hk
  · obtain rfl : g = k := by simpa [Value.ownBlock] using hk
    exact h1
theorem la_form {W : World} {base : Nat} {e : TypeId} {size : Nat} {v : Value} {n : Nat} {xs : List Value} (h : W.ownsRow base e size v n xs) (h0 : 0 < n) : ∃ g cap, v = .slice (some ⟨g, 0, none⟩) n cap := by
  rcases h.2 with ⟨_, h1⟩ | ⟨g, cap, cur, rfl, _⟩
  · omega
  · exact ⟨g, cap, rfl⟩
theorem la_gr' {W : World} {base g n cap : Nat} {xs : List Value} (h : W.ownsRow base 45 1 (.slice (some ⟨g, 0, none⟩) n cap) n xs) (h0 : 0 < n) : ∀ j x, xs[j]? = some x → W.cell? ⟨g, j, none⟩ = some x := by
  obtain ⟨g2, cap2, e, hc⟩ := la_gr h h0
  injection e with e1 e2 e3
  injection e1 with e4
  injection e4 with e5
  subst e5
  exact hc
theorem la_lit {W : World} {base g n cap : Nat} {c : Int} (h : W.ownsRow base 3 1 (.slice (some ⟨g, 0, none⟩) n cap) n ((List.replicate n c).map (Value.int .i64))) {j : Nat} (hj : j < n) : W.cell? ⟨g, j, none⟩ = some (.int .i64 c) := by
  obtain ⟨g2, cap2, z, e, _, hz, hc, _⟩ := la_at h hj
  injection e with e1 e2 e3
  injection e1 with e4
  injection e4 with e5
  subst e5
  rw [List.getElem?_replicate, if_pos hj] at hz
  cases hz
  exact hc
end Go.Proofs.YtdebllinaffceaaDoor.M
