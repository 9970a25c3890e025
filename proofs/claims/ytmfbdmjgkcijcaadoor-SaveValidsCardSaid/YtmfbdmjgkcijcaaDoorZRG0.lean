/- The reference's states in an array. -/
import Derived.Test.YtmfbdmjgkcijcaaDoorZV
import Derived.Test.YtmfbdmjgkcijcaaDoorZRF
namespace Go.Proofs.YtmfbdmjgkcijcaaDoor.H
open Go.RowKit Go.Proofs.YtmfbdmjgkcijcaaDoorW.PrintWords Go.Proofs.YtmfbdmjgkcijcaaDoorW.PrintLast Go.Proofs.YtmfbdmjgkcijcaaDoorW.PrintMore
open Go.ChangeMaps (setBlock)
attribute [local go_sem] max2_int min2_int max_two min_two max_three min_three max_four min_four
set_option linter.unusedVariables false
set_option linter.unusedSimpArgs false
open Go.Proofs.YtmfbdmjgkcijcaaDoor.M
/-- A state of the reference, with the slices that hold it. -/
structure RV where
  has : Bool
  A : Option Addr
  c : Nat
  xs : List Int
  B : Option Addr
  d : Nat
  sl : List KS
abbrev RS : Type := Bool × List Int × List KS
def RV.rs (v : RV) : RS := (v.has, v.xs, v.sl)
def RV.cells (v : RV) : List Value := [.bool v.has, .slice v.A v.xs.length v.c, .slice v.B v.sl.length v.d]
structure RV.Ok (v : RV) (w : World) (S : Nat) : Prop where
  stk : (Kd.int .i64).C w v.A v.xs.length v.xs
  cap : v.xs.length ≤ v.c
  slt : Kd.C k129 w v.B v.sl.length v.sl
  a : ∀ ad, v.A = some ad → ad.block ≠ S
  b : ∀ ad, v.B = some ad → ad.block ≠ S
structure Arr (w : World) (S : Nat) (l : List RV) : Prop where
  blk : w.heap[S]? = some (.cells (l.flatMap RV.cells).toArray 89 (0, 0))
  ok : ∀ v ∈ l, v.Ok w S
theorem flat_get : ∀ (l : List RV) (j : Nat) (v : RV), l[j]? = some v → ∀ i, i < 3 → (l.flatMap RV.cells)[j * 3 + i]? = v.cells[i]?
  | [], _, _, h => by simp at h
  | x :: l, 0, v, h => fun i hi => by
    obtain rfl : x = v := by simpa using h
    rw [List.flatMap_cons, Nat.zero_mul, Nat.zero_add, List.getElem?_append_left (by simpa [RV.cells] using hi)]
  | x :: l, j + 1, v, h => fun i hi => by
    rw [List.flatMap_cons, List.getElem?_append_right (by simp [RV.cells]; omega)]
    have := flat_get l j v (by simpa using h) i hi
    rw [← this]
    congr 1
    simp [RV.cells]
    omega
theorem flat_set : ∀ (l : List RV) (j : Nat) (v : RV), j < l.length → (((l.flatMap RV.cells).set (j * 3) (.bool v.has)).set (j * 3 + 1) (.slice v.A v.xs.length v.c)).set (j * 3 + 2) (.slice v.B v.sl.length v.d) = (l.set j v).flatMap RV.cells
  | [], _, _, h => by simp at h
  | x :: l, 0, v, h => by simp [RV.cells]
  | x :: l, j + 1, v, h => by
    have := flat_set l j v (by simpa using h)
    rw [List.flatMap_cons, List.set_cons_succ, List.flatMap_cons, ← this]
    have e : (j + 1) * 3 = j * 3 + 3 := by omega
    rw [e]
    simp [RV.cells]
theorem flat_len : ∀ l : List RV, (l.flatMap RV.cells).length = l.length * 3
  | [] => rfl
  | x :: l => by rw [List.flatMap_cons, List.length_append, flat_len l, List.length_cons]; simp [RV.cells]; omega
theorem Arr.get {w : World} {S : Nat} {l : List RV} (h : Arr w S l) {j : Nat} {v : RV} (hj : l[j]? = some v) : w.cell? ⟨S, j * 3, none⟩ = some (.bool v.has) ∧ w.cell? ⟨S, j * 3 + 1, none⟩ = some (.slice v.A v.xs.length v.c) ∧ w.cell? ⟨S, j * 3 + 2, none⟩ = some (.slice v.B v.sl.length v.d) := by
  have hg := fun i hi => flat_get l j v hj i hi
  refine ⟨?_, ?_, ?_⟩
  · rw [blk_cell h.blk]; simpa [RV.cells] using hg 0 (by omega)
  · rw [blk_cell h.blk]; simpa [RV.cells] using hg 1 (by omega)
  · rw [blk_cell h.blk]; simpa [RV.cells] using hg 2 (by omega)
theorem K_int {w w' : World} (x : Int) (c : List Value) (h : (Kd.int .i64).K w x c) : (Kd.int .i64).K w' x c := h
theorem RV.Ok.fr {v : RV} {w w' : World} {S : Nat} (h : v.Ok w S) (hf : Fr w w' []) : v.Ok w' S := ⟨Kd.C_below h.stk hf.below, h.cap, Kd.C_below h.slt hf.below, h.a, h.b⟩
theorem RV.Ok.frS {v : RV} {w w' : World} {S : Nat} (h : v.Ok w S) (hf : Fr w w' [S]) : v.Ok w' S := ⟨C_fr h.stk hf (fun ad e => by simpa using h.a ad e) K_int, h.cap, C_fr h.slt hf (fun ad e => by simpa using h.b ad e) K_kept, h.a, h.b⟩
theorem Arr.fr {w w' : World} {S : Nat} {l : List RV} (h : Arr w S l) (hf : Fr w w' []) : Arr w' S l := ⟨hf.blk h.blk (by simp), fun v hv => (h.ok v hv).fr hf⟩
theorem Arr.set {w : World} {S : Nat} {l : List RV} (h : Arr w S l) (j : Nat) (v : RV) (hj : j < l.length) (hv : v.Ok w S) : Arr (((w.setCell ⟨S, j * 3, none⟩ (.bool v.has)).setCell ⟨S, j * 3 + 1, none⟩ (.slice v.A v.xs.length v.c)).setCell ⟨S, j * 3 + 2, none⟩ (.slice v.B v.sl.length v.d)) S (l.set j v) := by
  have hf : Fr w (((w.setCell ⟨S, j * 3, none⟩ (.bool v.has)).setCell ⟨S, j * 3 + 1, none⟩ (.slice v.A v.xs.length v.c)).setCell ⟨S, j * 3 + 2, none⟩ (.slice v.B v.sl.length v.d)) [S] := (((Fr.refl w [S]).setCell _ _ (.inl (by simp))).setCell _ _ (.inl (by simp))).setCell _ _ (.inl (by simp))
  refine ⟨?_, fun u hu => ?_⟩
  · have := blk_set (blk_set (blk_set h.blk (j * 3) (.bool v.has)) (j * 3 + 1) (.slice v.A v.xs.length v.c)) (j * 3 + 2) (.slice v.B v.sl.length v.d)
    rw [this, List.setIfInBounds_toArray, List.setIfInBounds_toArray, List.setIfInBounds_toArray, flat_set l j v hj]
  · rcases List.mem_or_eq_of_mem_set hu with h1 | rfl
    · exact (h.ok u h1).frS hf
    · exact hv.frS hf
def rv0 : RV := ⟨false, none, 0, [], none, 0, []⟩
theorem rv0_ok (w : World) (S : Nat) : rv0.Ok w S := ⟨⟨rfl, by decide, fun h => absurd h (by decide)⟩, Nat.le_refl _, ⟨rfl, by decide, fun h => absurd h (by decide)⟩, (fun ad h => by cases h), (fun ad h => by cases h)⟩
theorem rv0_cells : rv0.cells = [.bool false, .slice none 0 0, .slice none 0 0] := rfl
theorem made_states (n : Nat) : madeCells #[.bool false, .slice none 0 0, .slice none 0 0] (n * 3) = ((List.replicate n rv0).flatMap RV.cells).toArray := by
  apply Array.ext
  · rw [size_madeCells, List.size_toArray, flat_len, List.length_replicate]
  · intro i h1 h2
    have hi : i < n * 3 := by simpa [madeCells] using h1
    have hj : (List.replicate n rv0)[i / 3]? = some rv0 := by rw [List.getElem?_replicate]; simp; omega
    have := flat_get _ _ _ hj (i % 3) (by omega)
    rw [show i / 3 * 3 + i % 3 = i by omega] at this
    have h3 : ((List.replicate n rv0).flatMap RV.cells).toArray[i]? = some ((List.replicate n rv0).flatMap RV.cells).toArray[i] := Array.getElem?_eq_getElem h2
    rw [List.getElem?_toArray, this] at h3
    have h4 : i % 3 = 0 ∨ i % 3 = 1 ∨ i % 3 = 2 := by omega
    simp only [madeCells, Array.getElem_map, Array.getElem_range]
    rw [rv0_cells] at h3
    generalize ((List.replicate n rv0).flatMap RV.cells).toArray[i] = u at h3
    rcases h4 with h4 | h4 | h4 <;> rw [h4] at h3 <;> obtain rfl := Option.some.inj h3 <;> simp [h4]
theorem info89 : (Tryd.prog.info? 89).map (fun i => (i.zero, i.size, i.bytes)) = some (some (.agg #[.bool false, .slice none 0 0, .slice none 0 0]), 3, 56) := by kernel_rfl
theorem make3 {ops : Array Oper} {rest : List Oper} {o : Oper} {a : Act} {Q : Exit → Act → World → Prop} {W : World} (x y : Operand) (hg0 : o.guard = none) (ho : o.op = .makeSlice 84 x y) (n : Nat) (hx : a.eval x = .int .i64 n) (hy : a.eval y = .int .i64 n) (hl : n ≤ 1000000000)
    (h : ∀ w1 ad, ad = ⟨W.heap.size, 0, none⟩ → Fr W w1 [] → Arr w1 W.heap.size (List.replicate n rv0) → wpList Tryd.prog ops Q rest (a.put o.dst (.slice (some ad) n n)) w1) : wpList Tryd.prog ops Q (o :: rest) a W := by
  obtain ⟨i0, hi0, hz0, hz1, hz2⟩ := info_parts info89
  have hbb : ((i0.bytes : Nat) : Int) * (n : Int) ≤ 281474976710656 := by
    rw [hz2]; omega
  have hr := run_make (P := Tryd.prog) W 84 89 i0 _ Tryd.underlying84 hi0 hz0 .i64 .i64 (n : Int) (n : Int) (by omega) (by omega) hbb (by omega)
  simp only [Int.toNat_natCast, hz1] at hr
  have hc : (Value.agg #[.bool false, .slice none 0 0, .slice none 0 0]).cells = #[.bool false, .slice none 0 0, .slice none 0 0] := rfl
  rw [hc, made_states] at hr
  refine wpl_val hg0 (by unfold execOp; simp [ho, hx, hy, hr]) (h _ _ rfl ((Fr.refl _ _).alloc _) ⟨heap_alloc_new _ _, fun v hv => ?_⟩)
  rw [List.eq_of_mem_replicate hv]
  exact rv0_ok _ _
theorem add_ad (S t : Nat) : (⟨S, 0, none⟩ : Addr).add t = ⟨S, t, none⟩ := by
  simp only [Addr.add]
  split
  · rename_i h; subst h; rfl
  · simp
/-- The reference's steps, in plain Lean. -/
def handTo (b : RS) (l : List RS) (t : Nat) : Int × List RS :=
  if handRE (l.getD t (false, [], [])).1 (l.getD t (false, [], [])).2.1 b.2.1 ≠ 0 then (handRE (l.getD t (false, [], [])).1 (l.getD t (false, [], [])).2.1 b.2.1, l) else (0, l.set t (true, b.2.1, handRS (l.getD t (false, [], [])).1 (l.getD t (false, [], [])).2.2 b.2.2))
def afterR (x : S64) (s : RS) : RS := (true, behindX x.f0 s.2.1 s.2.2 x.f1, behindS x.f0 s.2.1 s.2.2 x.f1)
def hand1 (x : S64) (k : Nat) (b : RS) (l : List RS) : Int × List RS := if x.f0 = 26 ∨ x.f0 = 0 then (0, l) else handTo b l (k + 1)
def hand2 (x : S64) (k : Nat) (b : RS) (r : Int × List RS) : Int × List RS := if r.1 ≠ 0 then r else if x.f0 = 26 ∨ x.f0 = 27 then handTo b r.2 (k + 1 + x.f1.toNat) else r
def refStep (code : List S64) (day : Int) (k : Nat) (l : List RS) : Int × List RS :=
  let s := l.getD k (false, [], [])
  let x := code.getD k z64
  let e := wrongP s.1 s.2.1 s.2.2 x.f0 x.f1 x.f2 day k code.length
  if e ≠ 0 then (e, l) else hand2 x k (afterR x s) (hand1 x k (afterR x s) l)
def refSeg (code : List S64) (day : Int) : Nat → Nat → List RS → Int × List RS
  | 0, _, l => (0, l)
  | m + 1, k, l => if (refStep code day k l).1 = 0 then refSeg code day m (k + 1) (refStep code day k l).2 else refStep code day k l
def initR (n : Nat) : List RS := (List.replicate n (false, [], [])).set 0 (true, [], [])
theorem rseg_step {code : List S64} {day : Int} {k : Nat} {l : List RS} (hk : k < code.length) : refSeg code day (code.length - k) k l = if (refStep code day k l).1 = 0 then refSeg code day (code.length - (k + 1)) (k + 1) (refStep code day k l).2 else refStep code day k l := by
  rw [show code.length - k = (code.length - (k + 1)) + 1 by omega]
  rfl
end Go.Proofs.YtmfbdmjgkcijcaaDoor.H
