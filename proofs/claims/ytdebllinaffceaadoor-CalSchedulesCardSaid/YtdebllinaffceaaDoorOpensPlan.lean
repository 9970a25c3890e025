-- Laid by this session's own program (wip/mix): a plan by value, its list of dates in memory.
import Derived.Test.YtdebllinaffceaaDoorVWords
import Derived.Test.YtdebllinaffceaaDoorOpens
import Derived.Test.YtdebllinaffceaaDoorMx0
import Derived.Deep.Strs
namespace Go.Proofs.YtdebllinaffceaaDoor.Opens
open Go.ChangeShapes Go.WideShapes Go.ChangeAt Go.RowKit Go.Joins Go.Proofs.YtdebllinaffceaaDoor.M Go.Proofs.YtdebllinaffceaaDoorW.PrintWords
variable {H : Type} {enc : TypeId × Value → H} {W : World} {base b0 : Nat} {sp : Nat → Bool} {held : Bool}
theorem cells_int : Tryd.prog.cellsOf 3 = 1 := by kernel_rfl
theorem cells_date : Tryd.prog.cellsOf 23 = 3 := by kernel_rfl
theorem cells_tenor : Tryd.prog.cellsOf 41 = 2 := by kernel_rfl
theorem cells_dates : Tryd.prog.cellsOf 51 = 1 := by kernel_rfl
theorem cells_plan : Tryd.prog.cellsOf 53 = 10 := by kernel_rfl
theorem bytes_date : Tryd.prog.bytesOf 23 = 24 := by kernel_rfl
theorem date_cells {fuel : Nat} {cs : List Value} {x : DataW H × List MemPlace} (h : DataW.trod enc Tryd.prog W base sp held fuel 23 cs = some x) :
    ∃ a b c : Int, cs = [.int .i64 a, .int .i64 b, .int .i64 c] := by
  obtain ⟨y0, y1, y2, n, _, hl, h0, h1, h2⟩ := Go.Deep.trod_struct3 Tryd.underlying23 h
  rw [cells_date] at hl
  match cs, hl with
  | [c0, c1, c2], _ =>
    simp only [cells_int] at h0 h1 h2
    obtain ⟨a, e0, _, _⟩ := DataW.trod_int Tryd.underlying3 h0
    obtain ⟨b, e1, _, _⟩ := DataW.trod_int Tryd.underlying3 h1
    obtain ⟨c, e2, _, _⟩ := DataW.trod_int Tryd.underlying3 h2
    simp at e0 e1 e2
    subst e0 e1 e2
    exact ⟨a, b, c, rfl⟩
theorem tenor_cells {fuel : Nat} {cs : List Value} {x : DataW H × List MemPlace} (h : DataW.trod enc Tryd.prog W base sp held fuel 41 cs = some x) :
    ∃ a b : Int, cs = [.int .i64 a, .int .i64 b] := by
  obtain ⟨y0, y1, n, _, hl, h0, h1⟩ := trod_struct2 Tryd.underlying41 h
  rw [cells_tenor] at hl
  match cs, hl with
  | [c0, c1], _ =>
    simp only [cells_int] at h0 h1
    obtain ⟨a, e0, _, _⟩ := DataW.trod_int Tryd.underlying3 h0
    obtain ⟨b, e1, _, _⟩ := DataW.trod_int Tryd.underlying3 h1
    simp at e0 e1
    subst e0 e1
    exact ⟨a, b, rfl⟩
/-- A list of dates in memory. -/
theorem dates_cells {fuel : Nat} {cs : List Value} {x : DataW H × List MemPlace} (h : DataW.trod enc Tryd.prog W base sp held fuel 51 cs = some x) :
    ∃ (A : Option Addr) (cap : Nat) (l : List S23), cs = [.slice A l.length cap] ∧ l.length ≤ cap ∧ Kd.C k23 W A l.length l ∧ (x.1 = .nil ∧ l = [] ∨ ∃ elems rest, x.1 = .slice elems rest ∧ elems.length = l.length) := by
  rcases DataW.trod_slice Tryd.underlying51 h with ⟨rfl, rfl⟩ | ⟨a, len, cap, elems, rest, n, _, rfl, rfl, hb, hl, hm, hlen, hel, _, _⟩
  · exact ⟨none, 0, [], rfl, Nat.le_refl _, Kd.C_nil _ _, .inl ⟨rfl, rfl⟩⟩
  · rw [cells_date] at hel
    have each : ∀ i, i < len → ∃ p : S23, ∀ j u, [Value.int .i64 p.f0, .int .i64 p.f1, .int .i64 p.f2][j]? = some u → W.cell? (a.add (i * 3 + j)) = some u := by
      intro i hi
      have e := hel i hi
      obtain ⟨y, hy⟩ : ∃ y, elems[i]? = some y := ⟨_, List.getElem?_eq_getElem (by omega)⟩
      rw [hy, Option.bind_eq_some_iff] at e
      obtain ⟨cs', hcs, hd⟩ := e
      obtain ⟨p, q, r, rfl⟩ := date_cells hd
      obtain ⟨_, _, hc⟩ := World.cells?_some hcs
      refine ⟨⟨p, q, r⟩, fun j u hj => ?_⟩
      have hj3 : j < 3 := (List.getElem?_eq_some_iff.1 hj).1
      have := hc j hj3
      rw [hj] at this
      rw [← this, Addr.add_add]
    have pick : ∃ f : Nat → S23, ∀ i, i < len → ∀ j u, [Value.int .i64 (f i).f0, .int .i64 (f i).f1, .int .i64 (f i).f2][j]? = some u → W.cell? (a.add (i * 3 + j)) = some u := by
      refine ⟨fun i => if h : i < len then (each i h).choose else z23, fun i hi => ?_⟩
      simp only [dif_pos hi]
      exact (each i hi).choose_spec
    obtain ⟨f, hf⟩ := pick
    have hll : ((List.range len).map f).length = len := by simp
    refine ⟨some a, cap, (List.range len).map f, by rw [hll], by rw [hll]; exact hl, ⟨rfl, by rw [hll]; unfold maxLen at hm; omega, fun _ => ⟨a, rfl, fun j p hp => ?_⟩⟩, .inr ⟨_, _, rfl, by rw [List.length_map, hlen, hll]⟩⟩
    have hj : j < len := by have := (List.getElem?_eq_some_iff.1 hp).1; rw [hll] at this; exact this
    have ep : p = f j := by
      rw [List.getElem?_map, List.getElem?_range hj] at hp
      exact (Option.some.inj hp).symm
    subst ep
    exact ⟨_, rfl, k23_mk W (f j), fun i u hu => hf j hj i u hu⟩
/-- A plan by value. -/
theorem open_plan {v : Value} {d : DataW H} {p : List MemPlace} (hv : Value.okWide Tryd.prog W .any b0 53 v) (h : DataW.Trod enc Tryd.prog W 0 sp true 53 v d p) :
    ∃ (a0 a1 a2 a3 a4 a5 a6 a7 a8 : Int) (A : Option Addr) (cap : Nat) (l : List S23), v = .agg #[.int .i64 a0, .int .i64 a1, .int .i64 a2, .int .i64 a3, .int .i64 a4, .int .i64 a5, .int .i64 a6, .int .i64 a7, .int .i64 a8, .slice A l.length cap] ∧
      l.length ≤ cap ∧ Kd.C k23 W A l.length l ∧ ∀ (ts : List TypeId) (ds : List (DataW H)) (j : Nat), (DataW.weightsEach Tryd.prog ts ds).all (· ≤ reachBytes) = true → ts[j]? = some 53 → ds[j]? = some d → l.length * 24 ≤ 140737488351232 := by
  obtain ⟨cs, rfl, hsz⟩ := okWide_struct Tryd.underlying53 hv
  rw [cells_plan] at hsz
  obtain ⟨cs⟩ := cs
  match cs, hsz with
  | [c0, c1, c2, c3, c4, c5, c6, c7, c8, c9], _ =>
    obtain ⟨fuel, hf⟩ := h
    obtain ⟨xs, n, _, hx, _, hlen, hfs⟩ := DataW.trod_struct Tryd.underlying53 hf
    have f0 := hfs 0 _ rfl
    have f1 := hfs 1 _ rfl
    have f2 := hfs 2 _ rfl
    have f3 := hfs 3 _ rfl
    have f4 := hfs 4 _ rfl
    match xs, hlen with
    | [y0, y1, y2, y3, y4], _ =>
      simp only [Value.cells] at f0 f1 f2 f3 f4
      obtain ⟨a0, a1, a2, e0⟩ := date_cells f0
      obtain ⟨a3, a4, a5, e1⟩ := date_cells f1
      obtain ⟨a6, a7, e2⟩ := tenor_cells f2
      obtain ⟨a8, e3, _, _⟩ := DataW.trod_int Tryd.underlying3 f3
      obtain ⟨A, cap, l, e4, hl, hC, hw⟩ := dates_cells f4
      simp at e0 e1 e2
      simp [cells_int] at e3
      simp [cells_dates] at e4
      obtain ⟨rfl, rfl, rfl⟩ := e0
      obtain ⟨rfl, rfl, rfl⟩ := e1
      obtain ⟨rfl, rfl⟩ := e2
      subst e3 e4
      refine ⟨a0, a1, a2, a3, a4, a5, a6, a7, a8, A, cap, l, rfl, hl, hC, fun ts ds j hz ht hd => ?_⟩
      rcases hw with ⟨_, rfl⟩ | ⟨elems, rest, hs, hle⟩
      · simp
      · have hd2 : d = .agg [y0.1, y1.1, y2.1, y3.1, y4.1] := by have := (Prod.mk.inj hx).1; simpa using this
        have m1 : (elems.length + rest.length) * Tryd.prog.bytesOf 23 ∈ d.weights Tryd.prog 53 := by
          rw [hd2, hs]
          simp only [DataW.weights, Tryd.underlying53]
          exact DataW.weights_mem_each (j := 4) (t := 51) rfl rfl _ (by simp [DataW.weights, Tryd.underlying51])
        have m2 := List.all_eq_true.1 hz _ (DataW.weights_mem_each ht hd _ m1)
        rw [bytes_date] at m2
        have m3 : (elems.length + rest.length) * 24 ≤ 140737488351232 := by have := of_decide_eq_true m2; unfold reachBytes at this; omega
        have : l.length * 24 ≤ (elems.length + rest.length) * 24 := Nat.mul_le_mul_right _ (by omega)
        omega
end Go.Proofs.YtdebllinaffceaaDoor.Opens
