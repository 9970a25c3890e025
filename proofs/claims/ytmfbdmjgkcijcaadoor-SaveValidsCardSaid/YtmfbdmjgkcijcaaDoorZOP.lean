/- What the rows of the verifier's laws share: openers for an api.Program and an api.State by value, and the tables in memory. -/
import Derived.Test.YtmfbdmjgkcijcaaDoorZV
import Derived.Test.YtmfbdmjgkcijcaaDoorRows
import Derived.Test.YtmfbdmjgkcijcaaDoorTie
import Derived.Test.YtmfbdmjgkcijcaaDoorZHB
import Derived.Test.YtmfbdmjgkcijcaaDoorZMx0
import Derived.ProofKit
import Derived.LaidMore
import Derived.OpenShut
import Derived.ShutString
import Derived.ChangeOld
import Derived.Below
import Derived.SizedLaws
import Derived.Lib.LaidTab
import Derived.Lib.SmallJoins
import Derived.Deep.Strs
namespace Go.Proofs.YtmfbdmjgkcijcaaDoor.Opens
open Go.ChangeShapes Go.WideShapes Go.ChangeAt Go.RowKit Go.Joins Go.Proofs.YtmfbdmjgkcijcaaDoor.M Go.Proofs.YtmfbdmjgkcijcaaDoor.H Go.Proofs.YtmfbdmjgkcijcaaDoorW.PrintWords
set_option linter.unusedVariables false
theorem own : ownKnob Tryd.prog.godebug = none := by kernel_rfl
theorem laidOut : laidOutB Tryd.prog = true := by kernel_rfl
section
variable {H : Type} {enc : TypeId × Value → H} {W : World} {base b0 : Nat} {sp : Nat → Bool} {held : Bool}
def Wt (t : TypeId) (d : DataW H) : Prop := ∀ n ∈ d.weights Tryd.prog t, n ≤ reachBytes
theorem all_mem {P : Program} {e : TypeId} : ∀ {ds : List (DataW H)} {d : DataW H}, d ∈ ds → ∀ n ∈ d.weights P e, n ∈ DataW.weightsAll P e ds
  | x :: r, d, hd, n, hn => by
    simp only [DataW.weightsAll, List.mem_append]
    rcases List.mem_cons.1 hd with rfl | h
    · exact Or.inl hn
    · exact Or.inr (all_mem h n hn)
theorem wt_slice {T E : TypeId} (hT : Tryd.prog.underlying T = some (.slice E)) {es rest : List (DataW H)} (h : Wt T (.slice es rest)) : (es.length + rest.length) * Tryd.prog.bytesOf E ≤ reachBytes ∧ ∀ d ∈ es, Wt E d :=
  ⟨h _ (by simp [DataW.weights, hT]), fun d hd n hn => h n (by simp only [DataW.weights, hT, List.mem_cons, List.mem_append]; exact Or.inr (Or.inl (all_mem hd n hn)))⟩
theorem wt_agg {t : TypeId} {fs : Array Field} (ht : Tryd.prog.underlying t = some (.struct fs)) {parts : List (DataW H)} (h : Wt t (.agg parts)) {j : Nat} {u : TypeId} {d : DataW H} (hu : (fs.toList.map (·.type))[j]? = some u) (hd : parts[j]? = some d) : Wt u d :=
  fun n hn => h n (by simp only [DataW.weights, ht]; exact DataW.weights_mem_each hu hd n hn)
/-- A slice of whatever elements, in memory. -/
theorem rows_open {α : Type} (d : Kd α) (z : α) (Q : α → Prop) {T E : TypeId} (hT : Tryd.prog.underlying T = some (.slice E)) (hc : Tryd.prog.cellsOf E = d.sz)
    (each : ∀ {fuel : Nat} {cs : List Value} {x : DataW H × List MemPlace}, DataW.trod enc Tryd.prog W base sp held fuel E cs = some x → ∃ p, d.K W p cs ∧ (Wt E x.1 → Q p))
    {fuel : Nat} {cs : List Value} {x : DataW H × List MemPlace} (h : DataW.trod enc Tryd.prog W base sp held fuel T cs = some x) :
    ∃ (A : Option Addr) (cap : Nat) (l : List α), cs = [.slice A l.length cap] ∧ l.length ≤ cap ∧ Kd.C d W A l.length l ∧ (Wt T x.1 → l.length * Tryd.prog.bytesOf E ≤ reachBytes ∧ ∀ p ∈ l, Q p) := by
  rcases DataW.trod_slice hT h with ⟨rfl, rfl⟩ | ⟨a, len, cap, elems, rest, n, _, rfl, rfl, hb, hl, hm, hlen, hel, _, _⟩
  · exact ⟨none, 0, [], rfl, Nat.le_refl _, Kd.C_nil _ _, fun _ => ⟨by simp, by simp⟩⟩
  · rw [hc] at hel
    have each' : ∀ i, i < len → ∃ p : α, ∃ cs', cs'.length = d.sz ∧ d.K W p cs' ∧ (∀ j u, cs'[j]? = some u → W.cell? (a.add (i * d.sz + j)) = some u) ∧ ∃ y, elems[i]? = some y ∧ (Wt E y.1 → Q p) := by
      intro i hi
      have e := hel i hi
      obtain ⟨y, hy⟩ : ∃ y, elems[i]? = some y := ⟨_, List.getElem?_eq_getElem (by omega)⟩
      rw [hy, Option.bind_eq_some_iff] at e
      obtain ⟨cs', hcs, hd⟩ := e
      obtain ⟨p, hk, hq⟩ := each hd
      obtain ⟨_, _, hcc⟩ := World.cells?_some hcs
      refine ⟨p, cs', d.K_len hk, hk, fun j u hj => ?_, y, hy, hq⟩
      have hjl : j < d.sz := by have := (List.getElem?_eq_some_iff.1 hj).1; rw [d.K_len hk] at this; exact this
      have := hcc j hjl
      rw [hj] at this
      rw [← this, Addr.add_add]
    have pick : ∃ f : Nat → α, ∀ i, i < len → ∃ cs', cs'.length = d.sz ∧ d.K W (f i) cs' ∧ (∀ j u, cs'[j]? = some u → W.cell? (a.add (i * d.sz + j)) = some u) ∧ ∃ y, elems[i]? = some y ∧ (Wt E y.1 → Q (f i)) := by
      refine ⟨fun i => if h : i < len then (each' i h).choose else z, fun i hi => ?_⟩
      simp only [dif_pos hi]
      exact (each' i hi).choose_spec
    obtain ⟨f, hf⟩ := pick
    have hll : ((List.range len).map f).length = len := by simp
    refine ⟨some a, cap, (List.range len).map f, by rw [hll], by rw [hll]; exact hl, ⟨rfl, by rw [hll]; unfold maxLen at hm; omega, fun _ => ⟨a, rfl, fun j p hp => ?_⟩⟩, fun hw => ?_⟩
    · have hj : j < len := by have := (List.getElem?_eq_some_iff.1 hp).1; rw [hll] at this; exact this
      obtain rfl : p = f j := by
        rw [List.getElem?_map, List.getElem?_range hj] at hp
        exact (Option.some.inj hp).symm
      obtain ⟨cs', h1, h2, h3, _⟩ := hf j hj
      exact ⟨cs', h1, h2, fun i u hu => h3 i u hu⟩
    · obtain ⟨hw1, hw2⟩ := wt_slice hT hw
      refine ⟨?_, fun p hp => ?_⟩
      · rw [hll]
        exact Nat.le_trans (Nat.mul_le_mul_right _ (by simp; omega)) hw1
      · obtain ⟨i, hi, rfl⟩ := List.mem_map.1 hp
        obtain ⟨_, _, _, _, y, hy, hq⟩ := hf i (List.mem_range.1 hi)
        exact hq (hw2 _ (List.mem_map.2 ⟨y, List.mem_of_getElem? hy, rfl⟩))
theorem cells_int : Tryd.prog.cellsOf 3 = 1 := by kernel_rfl
theorem cells_fault : Tryd.prog.cellsOf 28 = 1 := by kernel_rfl
theorem cells_bool : Tryd.prog.cellsOf 4 = 1 := by kernel_rfl
theorem cells_str : Tryd.prog.cellsOf 9 = 1 := by kernel_rfl
theorem cells_strs : Tryd.prog.cellsOf 22 = 1 := by kernel_rfl
theorem cells_ints : Tryd.prog.cellsOf 23 = 1 := by kernel_rfl
theorem cells_segs : Tryd.prog.cellsOf 24 = 1 := by kernel_rfl
theorem cells_inss : Tryd.prog.cellsOf 39 = 1 := by kernel_rfl
theorem cells_row : Tryd.prog.cellsOf 42 = 1 := by kernel_rfl
theorem cells_rows : Tryd.prog.cellsOf 27 = 1 := by kernel_rfl
theorem cells_ins : Tryd.prog.cellsOf 64 = 3 := by kernel_rfl
theorem cells_seg : Tryd.prog.cellsOf 41 = 2 := by kernel_rfl
theorem cells_cell : Tryd.prog.cellsOf 69 = 2 := by kernel_rfl
theorem cells_prog : Tryd.prog.cellsOf 26 = 8 := by kernel_rfl
theorem cells_state : Tryd.prog.cellsOf 30 = 6 := by kernel_rfl
theorem bytes_int : Tryd.prog.bytesOf 3 = 8 := by kernel_rfl
theorem bytes_str : Tryd.prog.bytesOf 9 = 16 := by kernel_rfl
theorem bytes_ins : Tryd.prog.bytesOf 64 = 24 := by kernel_rfl
theorem bytes_seg : Tryd.prog.bytesOf 41 = 32 := by kernel_rfl
theorem bytes_cell : Tryd.prog.bytesOf 69 = 16 := by kernel_rfl
theorem bytes_row : Tryd.prog.bytesOf 42 = 24 := by kernel_rfl
theorem each_int {fuel : Nat} {cs : List Value} {x : DataW H × List MemPlace} (h : DataW.trod enc Tryd.prog W base sp held fuel 3 cs = some x) : ∃ p, (Kd.int .i64).K W p cs ∧ (Wt 3 x.1 → True) := by
  obtain ⟨a, e, _, _⟩ := DataW.trod_int Tryd.underlying3 h
  exact ⟨a, e, fun _ => trivial⟩
theorem each_str {fuel : Nat} {cs : List Value} {x : DataW H × List MemPlace} (h : DataW.trod enc Tryd.prog W base sp held fuel 9 cs = some x) : ∃ p, Kd.string.K W p cs ∧ (Wt 9 x.1 → p.size ≤ reachBytes) := by
  obtain ⟨s, e, rfl, _⟩ := DataW.trod_string Tryd.underlying9 h
  exact ⟨s, e, fun hw => hw _ (by simp [DataW.weights])⟩
set_option maxRecDepth 100000 in
theorem each_ins {fuel : Nat} {cs : List Value} {x : DataW H × List MemPlace} (h : DataW.trod enc Tryd.prog W base sp held fuel 64 cs = some x) : ∃ p, k64.K W p cs ∧ (Wt 64 x.1 → True) := by
  obtain ⟨y0, y1, y2, n, _, hl, h0, h1, h2⟩ := Go.Deep.trod_struct3 Tryd.underlying64 h
  rw [cells_ins] at hl
  match cs, hl with
  | [c0, c1, c2], _ =>
    simp only [cells_int] at h0 h1 h2
    obtain ⟨a, e0, _, _⟩ := DataW.trod_int Tryd.underlying3 h0
    obtain ⟨b, e1, _, _⟩ := DataW.trod_int Tryd.underlying3 h1
    obtain ⟨c, e2, _, _⟩ := DataW.trod_int Tryd.underlying3 h2
    simp at e0 e1 e2
    subst e0 e1 e2
    exact ⟨⟨a, b, c⟩, k64_mk W ⟨a, b, c⟩, fun _ => trivial⟩
set_option maxRecDepth 100000 in
theorem each_cell {fuel : Nat} {cs : List Value} {x : DataW H × List MemPlace} (h : DataW.trod enc Tryd.prog W base sp held fuel 69 cs = some x) : ∃ p, k69.K W p cs ∧ (Wt 69 x.1 → True) := by
  obtain ⟨y0, y1, n, _, hl, h0, h1⟩ := trod_struct2 Tryd.underlying69 h
  rw [cells_cell] at hl
  match cs, hl with
  | [c0, c1], _ =>
    simp only [cells_int, cells_bool] at h0 h1
    obtain ⟨a, e0, _⟩ := DataW.trod_bool Tryd.underlying4 h0
    obtain ⟨b, e1, _, _⟩ := DataW.trod_int Tryd.underlying3 h1
    simp at e0 e1
    subst e0 e1
    exact ⟨⟨a, b⟩, k69_mk W ⟨a, b⟩, fun _ => trivial⟩
theorem each_row {fuel : Nat} {cs : List Value} {x : DataW H × List MemPlace} (h : DataW.trod enc Tryd.prog W base sp held fuel 42 cs = some x) : ∃ p, (Kd.slice 69 k69).K W p cs ∧ (Wt 42 x.1 → p.length * 16 ≤ reachBytes) := by
  obtain ⟨A, c, l, e, hl, hC, hw⟩ := rows_open k69 z69 (fun _ => True) Tryd.underlying42 cells_cell each_cell h
  exact ⟨l, ⟨A, c, e, hl, hC⟩, fun hh => by have := (hw hh).1; rwa [bytes_cell] at this⟩
set_option maxRecDepth 100000 in
theorem each_seg {fuel : Nat} {cs : List Value} {x : DataW H × List MemPlace} (h : DataW.trod enc Tryd.prog W base sp held fuel 41 cs = some x) : ∃ p, k41.K W p cs ∧ (Wt 41 x.1 → p.f1.length * 24 ≤ reachBytes) := by
  obtain ⟨y0, y1, n, rfl, hl, h0, h1⟩ := trod_struct2 Tryd.underlying41 h
  rw [cells_seg] at hl
  match cs, hl with
  | [c0, c1], _ =>
    simp only [cells_int, cells_inss] at h0 h1
    obtain ⟨a, e0, _, _⟩ := DataW.trod_int Tryd.underlying3 h0
    obtain ⟨A, c, l, e1, hl, hC, hw⟩ := rows_open k64 z64 (fun _ => True) Tryd.underlying39 cells_ins each_ins h1
    simp at e0 e1
    subst e0 e1
    exact ⟨⟨a, l⟩, k41_mk W ⟨a, l⟩ hl hC, fun hh => by have := (hw (wt_agg Tryd.underlying41 hh (j := 1) rfl rfl)).1; rwa [bytes_ins] at this⟩
set_option maxRecDepth 100000 in
/-- A program by value. -/
theorem open_program {v : Value} {d : DataW H} {p : List MemPlace} (hv : Value.okWide Tryd.prog W .any b0 26 v) (h : DataW.Trod enc Tryd.prog W 0 sp true 26 v d p) :
    ∃ (A0 : Option Addr) (c0 : Nat) (names : List ByteArray) (A1 : Option Addr) (c1 : Nat) (curs : List ByteArray) (A2 : Option Addr) (c2 : Nat) (pool : List Int) (hor cel slo sta : Int) (A7 : Option Addr) (c7 : Nat) (days : List S41), v = .agg #[.slice A0 names.length c0, .slice A1 curs.length c1, .slice A2 pool.length c2, .int .i64 hor, .int .i64 cel, .int .i64 slo, .int .i64 sta, .slice A7 days.length c7] ∧
      (names.length ≤ c0 ∧ Kd.C Kd.string W A0 names.length names) ∧ (curs.length ≤ c1 ∧ Kd.C Kd.string W A1 curs.length curs) ∧ (pool.length ≤ c2 ∧ Kd.C (Kd.int .i64) W A2 pool.length pool) ∧ (days.length ≤ c7 ∧ Kd.C k41 W A7 days.length days) ∧
      (Wt 26 d → names.length * 16 ≤ reachBytes ∧ curs.length * 16 ≤ reachBytes ∧ pool.length * 8 ≤ reachBytes ∧ days.length * 32 ≤ reachBytes ∧ (∀ s ∈ days, s.f1.length * 24 ≤ reachBytes) ∧ ∀ s ∈ names, s.size ≤ reachBytes) := by
  obtain ⟨cs, rfl, hsz⟩ := okWide_struct Tryd.underlying26 hv
  rw [cells_prog] at hsz
  obtain ⟨cs⟩ := cs
  match cs, hsz with
  | [c0, c1, c2, c3, c4, c5, c6, c7], _ =>
    obtain ⟨fuel, hf⟩ := h
    obtain ⟨xs, n, _, hx, _, hlen, hfs⟩ := DataW.trod_struct Tryd.underlying26 hf
    have f0 := hfs 0 _ rfl
    have f1 := hfs 1 _ rfl
    have f2 := hfs 2 _ rfl
    have f3 := hfs 3 _ rfl
    have f4 := hfs 4 _ rfl
    have f5 := hfs 5 _ rfl
    have f6 := hfs 6 _ rfl
    have f7 := hfs 7 _ rfl
    match xs, hlen with
    | [y0, y1, y2, y3, y4, y5, y6, y7], _ =>
      simp only [Value.cells] at f0 f1 f2 f3 f4 f5 f6 f7
      obtain ⟨A0, p0, l0, e0, hl0, hC0, hw0⟩ := rows_open Kd.string ByteArray.empty (fun s => s.size ≤ reachBytes) Tryd.underlying22 cells_str each_str f0
      obtain ⟨A1, p1, l1, e1, hl1, hC1, hw1⟩ := rows_open Kd.string ByteArray.empty (fun s => s.size ≤ reachBytes) Tryd.underlying22 cells_str each_str f1
      obtain ⟨A2, p2, l2, e2, hl2, hC2, hw2⟩ := rows_open (Kd.int .i64) 0 (fun _ => True) Tryd.underlying23 cells_int each_int f2
      obtain ⟨a3, e3, _, _⟩ := DataW.trod_int Tryd.underlying3 f3
      obtain ⟨a4, e4, _, _⟩ := DataW.trod_int Tryd.underlying3 f4
      obtain ⟨a5, e5, _, _⟩ := DataW.trod_int Tryd.underlying3 f5
      obtain ⟨a6, e6, _, _⟩ := DataW.trod_int Tryd.underlying3 f6
      obtain ⟨A7, p7, l7, e7, hl7, hC7, hw7⟩ := rows_open k41 z41 (fun s => s.f1.length * 24 ≤ reachBytes) Tryd.underlying24 cells_seg each_seg f7
      simp [cells_strs, cells_ints, cells_int, cells_segs] at e0 e1 e2 e3 e4 e5 e6 e7
      subst e0 e1 e2 e3 e4 e5 e6 e7
      obtain rfl : d = .agg [y0.1, y1.1, y2.1, y3.1, y4.1, y5.1, y6.1, y7.1] := by have := (Prod.mk.inj hx).1; simpa using this
      refine ⟨A0, p0, l0, A1, p1, l1, A2, p2, l2, a3, a4, a5, a6, A7, p7, l7, rfl, ⟨hl0, hC0⟩, ⟨hl1, hC1⟩, ⟨hl2, hC2⟩, ⟨hl7, hC7⟩, fun hh => ?_⟩
      have w0 := hw0 (wt_agg Tryd.underlying26 hh (j := 0) rfl rfl)
      have w1 := hw1 (wt_agg Tryd.underlying26 hh (j := 1) rfl rfl)
      have w2 := hw2 (wt_agg Tryd.underlying26 hh (j := 2) rfl rfl)
      have w7 := hw7 (wt_agg Tryd.underlying26 hh (j := 7) rfl rfl)
      rw [bytes_str] at w0 w1
      rw [bytes_int] at w2
      rw [bytes_seg] at w7
      exact ⟨w0.1, w1.1, w2.1, w7.1, w7.2, w0.2⟩
set_option maxRecDepth 100000 in
/-- A state by value. -/
theorem open_state {v : Value} {d : DataW H} {p : List MemPlace} (hv : Value.okWide Tryd.prog W .any b0 30 v) (h : DataW.Trod enc Tryd.prog W 0 sp true 30 v d p) :
    ∃ (a0 a1 : Int) (B2 : Option Addr) (d2 : Nat) (l2 : List Int) (B3 : Option Addr) (d3 : Nat) (l3 : List (List S69)) (a4 a5 : Int), v = .agg #[.int .i64 a0, .int .i64 a1, .slice B2 l2.length d2, .slice B3 l3.length d3, .int .i64 a4, .int .i64 a5] ∧
      (l2.length ≤ d2 ∧ Kd.C (Kd.int .i64) W B2 l2.length l2) ∧ (l3.length ≤ d3 ∧ Kd.C (Kd.slice 69 k69) W B3 l3.length l3) ∧
      (Wt 30 d → l2.length * 8 ≤ reachBytes ∧ l3.length * 24 ≤ reachBytes ∧ ∀ s ∈ l3, s.length * 16 ≤ reachBytes) := by
  obtain ⟨cs, rfl, hsz⟩ := okWide_struct Tryd.underlying30 hv
  rw [cells_state] at hsz
  obtain ⟨cs⟩ := cs
  match cs, hsz with
  | [c0, c1, c2, c3, c4, c5], _ =>
    obtain ⟨fuel, hf⟩ := h
    obtain ⟨xs, n, _, hx, _, hlen, hfs⟩ := DataW.trod_struct Tryd.underlying30 hf
    have f0 := hfs 0 _ rfl
    have f1 := hfs 1 _ rfl
    have f2 := hfs 2 _ rfl
    have f3 := hfs 3 _ rfl
    have f4 := hfs 4 _ rfl
    have f5 := hfs 5 _ rfl
    match xs, hlen with
    | [y0, y1, y2, y3, y4, y5], _ =>
      simp only [Value.cells] at f0 f1 f2 f3 f4 f5
      obtain ⟨a0, e0, _, _⟩ := DataW.trod_int Tryd.underlying3 f0
      obtain ⟨a1, e1, _, _⟩ := DataW.trod_int Tryd.underlying3 f1
      obtain ⟨B2, p2, l2, e2, hl2, hC2, hw2⟩ := rows_open (Kd.int .i64) 0 (fun _ => True) Tryd.underlying23 cells_int each_int f2
      obtain ⟨B3, p3, l3, e3, hl3, hC3, hw3⟩ := rows_open (Kd.slice 69 k69) [] (fun s => s.length * 16 ≤ reachBytes) Tryd.underlying27 cells_row each_row f3
      obtain ⟨a4, e4, _, _⟩ := DataW.trod_int Tryd.underlying28 f4
      obtain ⟨a5, e5, _, _⟩ := DataW.trod_int Tryd.underlying3 f5
      simp [cells_ints, cells_int, cells_rows, cells_fault] at e0 e1 e2 e3 e4 e5
      subst e0 e1 e2 e3 e4 e5
      obtain rfl : d = .agg [y0.1, y1.1, y2.1, y3.1, y4.1, y5.1] := by have := (Prod.mk.inj hx).1; simpa using this
      refine ⟨a0, a1, B2, p2, l2, B3, p3, l3, a4, a5, rfl, ⟨hl2, hC2⟩, ⟨hl3, hC3⟩, fun hh => ?_⟩
      have w2 := hw2 (wt_agg Tryd.underlying30 hh (j := 2) rfl rfl)
      have w3 := hw3 (wt_agg Tryd.underlying30 hh (j := 3) rfl rfl)
      rw [bytes_int] at w2
      rw [bytes_row] at w3
      exact ⟨w2.1, w3.1, w3.2⟩
end
end Go.Proofs.YtmfbdmjgkcijcaaDoor.Opens
