import Derived.Test.YtdebllinaffceaaHandBetween2
import Derived.Test.YtdebllinaffceaaMPayofflaw02Missing
import Derived.Test.YtdebllinaffceaaMPayofflaw02Own
import Derived.RangeFuncBox
namespace Go.Proofs.Ytdebllinaffceaa.M
open Go.RowKit Go.Proofs.YtdebllinaffceaaW.PrintWords Go.Proofs.YtdebllinaffceaaW.PrintLast Go.Proofs.YtdebllinaffceaaW.PrintMore

theorem keepsOthers_below {W W' : World} (h : Below W.heap.size W W') : KeepsOthers W W' :=
  ⟨h.size, fun k _ hk _ => (h.block k (Array.getElem?_eq_some_iff.1 hk).1).trans hk⟩
/-- A block that no row reaches stays as it is. -/
theorem ownFrom_block {β : Type} {B D : Nat} {o : Obj} (hD : D < B) : OwnFrom B (fun (_ : β) W => W.heap[D]? = some o) :=
  fun _ _ _ _ hs hg hr => (hg.block D (Array.getElem?_eq_some_iff.1 hs).1 (fun e => by have := (hr D e.symm).1; omega)).trans hs

theorem Cap.below {w0 w1 : World} {bf bw bs bh bt : Nat} {f lim : Int} {A : Option Addr} {c : Nat} {l : List Int} (h : Cap w0 bf bw bs bh bt f lim A c l) (hb : Below w0.heap.size w0 w1) : Cap w1 bf bw bs bh bt f lim A c l :=
  ⟨(hb.cell (p := ⟨bf, 0, none⟩) (World.block_lt_of_cell? _ _ h.f)).trans h.f, (hb.cell (p := ⟨bw, 0, none⟩) (World.block_lt_of_cell? _ _ h.w)).trans h.w, (hb.cell (p := ⟨bs, 0, none⟩) (World.block_lt_of_cell? _ _ h.s)).trans h.s,
   (hb.cell (p := ⟨bh, 0, none⟩) (World.block_lt_of_cell? _ _ h.h)).trans h.h, (hb.cell (p := ⟨bt, 0, none⟩) (World.block_lt_of_cell? _ _ h.t)).trans h.t, Kd.C_below h.r hb, h.hc⟩

/-- THE ITERATOR OF Between HAS ITS CONTRACT, in every world that has what lay at its making. -/
theorem Cap.stops {wk : World} {bf bw bs bh bt : Nat} {f lim : Int} {A : Option Addr} {c : Nat} {l : List Int} (h : Cap wk bf bw bs bh bt f lim A c l) (K : Nat) (xs : List Int) (hx : cal_walk.upto K l lim f = some xs) (n : Nat) (hn : 2 ≤ n)
    (W1 : World) (h1 : Below wk.heap.size wk W1) : SeqStopsK Fence.wide n Try.prog 23 #[.pointer (some ⟨bf, 0, none⟩), .pointer (some ⟨bw, 0, none⟩), .pointer (some ⟨bs, 0, none⟩), .pointer (some ⟨bh, 0, none⟩)] (fun x : Int => #[.int .i64 x]) (Below wk.heap.size) (fun ys => ys = xs) (fun pre => pre <+: xs ∧ pre ≠ []) xs.length W1 :=
  fun yl J Jx W hW hJ hJx hY h0 => cal_walk1.in_ n hn yl bf bw bs bh bt f lim A c l wk h K xs hx _ (fun A B hk hC k hlt => (hk.block k hlt).trans (hC k hlt)) J Jx
      (fun s A m hs => hJ s A _ none hs (grown_drewN A m none) (fun r e => by cases e)) hY W (fun k hk => ((hW.block k (Nat.lt_of_lt_of_le hk h1.size)).trans (h1.block k hk))) h0

/-- What the law's parameters, laid into memory, hold. -/
structure Par (w : World) (a b c : Int) (A : Option Addr) (c3 : Nat) (l : List Int) (W : World) : Prop where
  c4 : W.cell? ⟨w.heap.size, 0, none⟩ = some (.int .i64 a)
  c5 : W.cell? ⟨w.heap.size + 1, 0, none⟩ = some (.int .i64 b)
  c6 : W.cell? ⟨w.heap.size + 1 + 1, 0, none⟩ = some (.int .i64 c)
  c7 : W.cell? ⟨w.heap.size + 1 + 1 + 1, 0, none⟩ = some (.slice A l.length c3)
  c8 : W.cell? ⟨w.heap.size + 1 + 1 + 1 + 1, 0, none⟩ = some (.bool false)
  f8 : W.frozen? ⟨w.heap.size + 1 + 1 + 1 + 1, 0, none⟩ = false
  bl : Below w.heap.size w W
  sz : w.heap.size + 5 ≤ W.heap.size
theorem Par.next {w W W' : World} {a b c : Int} {A : Option Addr} {c3 : Nat} {l : List Int} {n₀ : Nat} (h : Par w a b c A c3 l W) (hb : Below n₀ W W') (hn : w.heap.size + 5 ≤ n₀) : Par w a b c A c3 l W' :=
  ⟨(hb.cell (p := ⟨w.heap.size, 0, none⟩) (by simp; omega)).trans h.c4, (hb.cell (p := ⟨w.heap.size + 1, 0, none⟩) (by simp; omega)).trans h.c5, (hb.cell (p := ⟨w.heap.size + 1 + 1, 0, none⟩) (by simp; omega)).trans h.c6,
   (hb.cell (p := ⟨w.heap.size + 1 + 1 + 1, 0, none⟩) (by simp; omega)).trans h.c7, (hb.cell (p := ⟨w.heap.size + 1 + 1 + 1 + 1, 0, none⟩) (by simp; omega)).trans h.c8, (hb.frozen (p := ⟨w.heap.size + 1 + 1 + 1 + 1, 0, none⟩) (by simp; omega)).trans h.f8,
   h.bl.trans (hb.mono (by omega)), Nat.le_trans h.sz hb.size⟩
theorem Par.drew {w W : World} {a b c : Int} {A : Option Addr} {c3 : Nat} {l : List Int} (h : Par w a b c A c3 l W) : Par w a b c A c3 l W.drew := ⟨h.c4, h.c5, h.c6, h.c7, h.c8, h.f8, h.bl.drew, h.sz⟩
theorem Par.drewN {w W : World} {a b c : Int} {A : Option Addr} {c3 : Nat} {l : List Int} (h : Par w a b c A c3 l W) (n : Nat) : Par w a b c A c3 l (W.drewN n) := ⟨h.c4, h.c5, h.c6, h.c7, h.c8, h.f8, pw_below_drewN h.bl n, h.sz⟩
theorem Par.row {w W : World} {a b c : Int} {A : Option Addr} {c3 : Nat} {l : List Int} (h : Par w a b c A c3 l W) (r : Kd.C (Kd.int .i64) w A l.length l) : Kd.C (Kd.int .i64) W A l.length l := Kd.C_below r h.bl
theorem Par.first (w : World) (a b c : Int) (A : Option Addr) (c3 : Nat) (l : List Int) :
    Par w a b c A c3 l (((((w.alloc (.cells #[.int .i64 a] 3)).alloc (.cells #[.int .i64 b] 3)).alloc (.cells #[.int .i64 c] 3)).alloc (.cells #[.slice A l.length c3] 27)).alloc (.cells #[.bool false] 4)) := by
  have s1 := cell_new_l w (.int .i64 a) 3
  have s2 := cell_new_l (w.alloc (.cells #[.int .i64 a] 3)) (.int .i64 b) 3
  have s3 := cell_new_l ((w.alloc (.cells #[.int .i64 a] 3)).alloc (.cells #[.int .i64 b] 3)) (.int .i64 c) 3
  have s4 := cell_new_l (((w.alloc (.cells #[.int .i64 a] 3)).alloc (.cells #[.int .i64 b] 3)).alloc (.cells #[.int .i64 c] 3)) (.slice A l.length c3) 27
  have s5 := cell_new_l ((((w.alloc (.cells #[.int .i64 a] 3)).alloc (.cells #[.int .i64 b] 3)).alloc (.cells #[.int .i64 c] 3)).alloc (.cells #[.slice A l.length c3] 27)) (.bool false) 4
  simp only [World.size_alloc] at s2 s3 s4 s5
  exact ⟨cell_alloc_l _ (cell_alloc_l _ (cell_alloc_l _ (cell_alloc_l _ s1.1))), cell_alloc_l _ (cell_alloc_l _ (cell_alloc_l _ s2.1)), cell_alloc_l _ (cell_alloc_l _ s3.1), cell_alloc_l _ s4.1, s5.1, s5.2,
    (((((Below.refl _ w).alloc (Nat.le_refl _) _).alloc (by simp) _).alloc (by simp; omega) _).alloc (by simp; omega) _).alloc (by simp; omega) _, by simp⟩
theorem Cap.drew {w0 : World} {bf bw bs bh bt : Nat} {f lim : Int} {A : Option Addr} {c : Nat} {l : List Int} (h : Cap w0 bf bw bs bh bt f lim A c l) : Cap w0.drew bf bw bs bh bt f lim A c l := h.below (Below.refl _ w0).drew
theorem boxed_low {W W' : World} {B : Nat} {t : TypeId} {v : Value} (h : Boxed W B t v) (hb : Below W.heap.size W W') : Boxed W' B t v := (hb.block B h.lt).trans h
theorem ownsRow_low {W W' : World} {base : Nat} {e : TypeId} {size : Nat} {v : Value} {n : Nat} {xs : List Value} (h : W.ownsRow base e size v n xs) (hb : Below W.heap.size W W') : W'.ownsRow base e size v n xs := by
  refine ⟨h.1, ?_⟩
  rcases h.2 with hn | ⟨g, cap, cur, rfl, h1, hgg, rest⟩
  · exact .inl hn
  · exact .inr ⟨g, cap, cur, rfl, h1, (hb.block g (Array.getElem?_eq_some_iff.1 hgg).1).trans hgg, rest⟩
theorem prefix_mem {xs pre : List Int} {x : Int} (h : pre ++ [x] <+: xs) : x ∈ xs := h.subset (by simp)
theorem prefix_get {xs pre : List Int} {x : Int} (h : pre ++ [x] <+: xs) : xs[pre.length]? = some x := by
  obtain ⟨t, rfl⟩ := h
  simp
theorem row_of_own {W : World} {base : Nat} {v : Value} {zs : List Int} (h : W.ownsRow base 3 1 v zs.length (zs.map (Value.int .i64))) : Kd.R (Kd.int .i64) 3 W base (fun _ => True) v zs :=
  Kd.R_of_own (enc := Value.int .i64) (h1 := fun _ => rfl) h (fun _ _ => trivial)
theorem own_at {W : World} {base n : Nat} {v : Value} {zs : List Int} (h : W.ownsRow base 3 1 v n (zs.map (Value.int .i64))) (hn : n = zs.length) {k : Nat} (hk : k < n) :
    ∃ g cap z, v = .slice (some ⟨g, 0, none⟩) n cap ∧ zs[k]? = some z ∧ W.cell? ⟨g, k, none⟩ = some (.int .i64 z) := by
  rcases h.2 with ⟨_, h0⟩ | ⟨g, cap, cur, rfl, h1, hgg, h2, h3, h4, h5⟩
  · omega
  · have hkz : k < zs.length := by omega
    refine ⟨g, cap, zs[k], rfl, List.getElem?_eq_getElem hkz, ?_⟩
    have e : cur[k]? = some (Value.int .i64 zs[k]) := by
      have e1 : (cur.toList.take (n * 1))[k]? = (zs.map (Value.int .i64))[k]? := by rw [h5]
      rw [List.getElem?_take_of_lt (by omega)] at e1
      simpa [List.getElem?_eq_getElem hkz] using e1
    simp [World.cell?, hgg, e]
theorem fixedRow_own {β : Type} (n₀ B : Nat) (t e : TypeId) (size : Nat) (k : Nat) (f : List Value) (v : Value) : Own (fun (_ : β) W => Boxed W B t v ∧ W.ownsRow n₀ e size v k f) := by
  intro s X Y row hs hg hrow
  obtain ⟨v', h1, h2, h3⟩ := holdsRow_own n₀ B t e size (fun _ : β => k) (fun _ => f) (fun _ v' => v' = v) s X Y row ⟨v, hs.1, hs.2, rfl⟩ hg hrow
  subst h3
  exact ⟨h1, h2⟩
theorem ownsRow_lt {W : World} {base : Nat} {e : TypeId} {size : Nat} {v : Value} {n : Nat} {xs : List Value} (h : W.ownsRow base e size v n xs) : ∀ k, v.ownBlock = some k → k < W.heap.size := by
  intro k hk
  rcases h.2 with ⟨rfl, _⟩ | ⟨g, cap, cur, rfl, _, hgg, _⟩
  · simp [Value.ownBlock] at hk
  · obtain rfl : g = k := by simpa [Value.ownBlock] using hk
    exact (Array.getElem?_eq_some_iff.1 hgg).1
theorem try_info3 : (Try.prog.info? 3).map (fun i => (i.zero, i.size, i.bytes)) = some (some (.int .i64 0), 1, 8) := by kernel_rfl
end Go.Proofs.Ytdebllinaffceaa.M
