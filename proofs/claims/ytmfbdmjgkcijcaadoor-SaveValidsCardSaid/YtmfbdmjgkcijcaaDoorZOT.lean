/- The tables of the verifier, off the row's condition. -/
import Derived.Test.YtmfbdmjgkcijcaaDoorZV
import Derived.Test.YtmfbdmjgkcijcaaDoorZOP
import Derived.Stop.LaidErr
namespace Go.Proofs.YtmfbdmjgkcijcaaDoor.Opens
open Go.ChangeShapes Go.WideShapes Go.ChangeAt Go.RowKit Go.Joins Go.Proofs.YtmfbdmjgkcijcaaDoor.M Go.Proofs.YtmfbdmjgkcijcaaDoor.H
set_option linter.unusedVariables false
section
variable {H : Type} {enc : TypeId × Value → H} {W : World} {base : Nat} {sp : Nat → Bool} {held : Bool}
theorem lit_str {fuel : Nat} {cs : List Value} {y : DataW H × List MemPlace} {s : ByteArray} (h : DataW.trod enc Tryd.prog W base sp held fuel 9 cs = some y) (hy : y.1 = .lit (.string s.data.toList)) : cs = [.string s] := by
  obtain ⟨b, e, rfl, _⟩ := DataW.trod_string Tryd.underlying9 h
  simp only [DataW.lit.injEq, Lit.string.injEq] at hy
  rw [e]
  have : b = s := by
    cases b; cases s
    simpa using hy
  rw [this]
theorem lit_int {fuel : Nat} {cs : List Value} {y : DataW H × List MemPlace} {z : Int} (h : DataW.trod enc Tryd.prog W base sp held fuel 3 cs = some y) (hy : y.1 = .lit (.int .i64 z)) : cs = [.int .i64 z] := by
  obtain ⟨a, e, rfl, _⟩ := DataW.trod_int Tryd.underlying3 h
  simp only [DataW.lit.injEq, Lit.int.injEq, true_and] at hy
  rw [e, hy]
theorem lit_bool {fuel : Nat} {cs : List Value} {y : DataW H × List MemPlace} {z : Bool} (h : DataW.trod enc Tryd.prog W base sp held fuel 4 cs = some y) (hy : y.1 = .lit (.bool z)) : cs = [.bool z] := by
  obtain ⟨a, e, rfl⟩ := DataW.trod_bool Tryd.underlying4 h
  simp only [DataW.lit.injEq, Lit.bool.injEq] at hy
  rw [e, hy]
def kData (r : ByteArray × Int × Int × Int × Int × Int) : DataW H := .agg [.lit (.string r.1.data.toList), .lit (.int .i64 r.2.1), .lit (.int .i64 r.2.2.1), .lit (.int .i64 r.2.2.2.1), .lit (.int .i64 r.2.2.2.2.1), .lit (.int .i64 r.2.2.2.2.2)]
def rData (r : ByteArray × Int × Int × Int × Int) : DataW H := .agg [.lit (.string r.1.data.toList), .lit (.int .i64 r.2.1), .lit (.int .i64 r.2.2.1), .lit (.int .i64 r.2.2.2.1), .lit (.int .i64 r.2.2.2.2)]
theorem cells_kind : Tryd.prog.cellsOf 161 = 6 := by kernel_rfl
theorem cells_trow : Tryd.prog.cellsOf 155 = 5 := by kernel_rfl
set_option maxRecDepth 100000 in
theorem kind_cells {fuel : Nat} {cs : List Value} {y : DataW H × List MemPlace} {r : ByteArray × Int × Int × Int × Int × Int} (h : DataW.trod enc Tryd.prog W base sp held fuel 161 cs = some y) (hy : y.1 = kData r) : cs = [.string r.1, .int .i64 r.2.1, .int .i64 r.2.2.1, .int .i64 r.2.2.2.1, .int .i64 r.2.2.2.2.1, .int .i64 r.2.2.2.2.2] := by
  obtain ⟨xs, n, _, rfl, hl, hlen, hfs⟩ := DataW.trod_struct Tryd.underlying161 h
  rw [cells_kind] at hl
  match cs, hl with
  | [c0, c1, c2, c3, c4, c5], _ =>
    have f0 := hfs 0 _ rfl
    have f1 := hfs 1 _ rfl
    have f2 := hfs 2 _ rfl
    have f3 := hfs 3 _ rfl
    have f4 := hfs 4 _ rfl
    have f5 := hfs 5 _ rfl
    match xs, hlen with
    | [y0, y1, y2, y3, y4, y5], _ =>
      simp only [kData, List.map_cons, List.map_nil, DataW.agg.injEq, List.cons.injEq, and_true] at hy
      obtain ⟨h0, h1, h2, h3, h4, h5⟩ := hy
      have e0 := lit_str f0 h0
      have e1 := lit_int f1 h1
      have e2 := lit_int f2 h2
      have e3 := lit_int f3 h3
      have e4 := lit_int f4 h4
      have e5 := lit_int f5 h5
      simp [cells_str, cells_int] at e0 e1 e2 e3 e4 e5
      rw [e0, e1, e2, e3, e4, e5]
set_option maxRecDepth 100000 in
theorem trow_cells {fuel : Nat} {cs : List Value} {y : DataW H × List MemPlace} {r : ByteArray × Int × Int × Int × Int} (h : DataW.trod enc Tryd.prog W base sp held fuel 155 cs = some y) (hy : y.1 = rData r) : cs = [.string r.1, .int .i64 r.2.1, .int .i64 r.2.2.1, .int .i64 r.2.2.2.1, .int .i64 r.2.2.2.2] := by
  obtain ⟨xs, n, _, rfl, hl, hlen, hfs⟩ := DataW.trod_struct Tryd.underlying155 h
  rw [cells_trow] at hl
  match cs, hl with
  | [c0, c1, c2, c3, c4], _ =>
    have f0 := hfs 0 _ rfl
    have f1 := hfs 1 _ rfl
    have f2 := hfs 2 _ rfl
    have f3 := hfs 3 _ rfl
    have f4 := hfs 4 _ rfl
    match xs, hlen with
    | [y0, y1, y2, y3, y4], _ =>
      simp only [rData, List.map_cons, List.map_nil, DataW.agg.injEq, List.cons.injEq, and_true] at hy
      obtain ⟨h0, h1, h2, h3, h4⟩ := hy
      have e0 := lit_str f0 h0
      have e1 := lit_int f1 h1
      have e2 := lit_int f2 h2
      have e3 := lit_int f3 h3
      have e4 := lit_int f4 h4
      simp [cells_str, cells_int] at e0 e1 e2 e3 e4
      rw [e0, e1, e2, e3, e4]
/-- An array of structs: what lies at each place. -/
theorem arr_cells {t e n : Nat} {fuel : Nat} {cs : List Value} {ds : List (DataW H)} {p : List MemPlace} (ht : Tryd.prog.underlying t = some (.array n e)) (h : DataW.trod enc Tryd.prog W base sp held fuel t cs = some (.agg ds, p)) :
    ∀ i, i < n → ∃ fu y, DataW.trod enc Tryd.prog W base sp held fu e ((cs.drop (i * Tryd.prog.cellsOf e)).take (Tryd.prog.cellsOf e)) = some y ∧ ds[i]? = some y.1 := by
  cases fuel with
  | zero => simp [DataW.trod] at h
  | succ fuel =>
    simp only [DataW.trod, ht] at h
    split at h
    · obtain ⟨xs, hm, hx⟩ := Option.map_eq_some_iff.1 h
      have hxs : xs.map (·.1) = ds := by have := congrArg Prod.fst hx; simpa using this
      intro i hi
      obtain ⟨b, hb, hf⟩ := Lib.mapM_at hm i i (by simp [hi])
      exact ⟨fuel, b, hf, by rw [← hxs]; simp [hb]⟩
    · cases h
end
abbrev laidAll : List (String × DataW Unit) := [("payoff/payoffref11.table", Rows.laid_payoff_payoffref11_table), ("payoff/code.kinds", Rows.laid_payoff_code_kinds), ("payoff/verify.number", Rows.laid_payoff_verify_number), ("payoff/verify.truth", Rows.laid_payoff_verify_truth)]
set_option maxRecDepth 100000 in
theorem tab_data {H : Type} : (Rows.laid_payoff_payoffref11_table : DataW H) = .agg (rTab.map rData) := by kernel_rfl
set_option maxRecDepth 100000 in
theorem knd_data {H : Type} : (Rows.laid_payoff_code_kinds : DataW H) = .agg (kTab.map kData) := by kernel_rfl
theorem g_num : Tryd.prog.globalNamed "payoff/verify.number" = some 0 := by kernel_rfl
theorem g_knd : Tryd.prog.globalNamed "payoff/code.kinds" = some 1 := by kernel_rfl
theorem g_tru : Tryd.prog.globalNamed "payoff/verify.truth" = some 2 := by kernel_rfl
theorem g_tab : Tryd.prog.globalNamed "payoff/payoffref11.table" = some 3 := by kernel_rfl
theorem t_num : (Tryd.prog.globals[0]?).map (·.type) = some 137 := by kernel_rfl
theorem t_knd : (Tryd.prog.globals[1]?).map (·.type) = some 162 := by kernel_rfl
theorem t_tru : (Tryd.prog.globals[2]?).map (·.type) = some 137 := by kernel_rfl
theorem t_tab : (Tryd.prog.globals[3]?).map (·.type) = some 163 := by kernel_rfl
/-- One variable of the list. -/
theorem laid_one {n : String} {d : DataW Unit} {r : List (String × DataW Unit)} {W : World} (h : laidMet Tryd.prog ((n, d) :: r) W) {g t : Nat} (hg : Tryd.prog.globalNamed n = some g) (ht : (Tryd.prog.globals[g]?).map (·.type) = some t) :
    ∃ cs fuel p, (∀ i, W.cell? ⟨g, i, none⟩ = cs[i]?) ∧ DataW.trod (fun _ => ()) Tryd.prog W 0 (fun _ => true) false fuel t cs = some (d, p) := by
  obtain ⟨ps, ⟨g', t', cs, fuel, p, q, hg', ht', hvar, hd, _, _⟩, _⟩ := h
  obtain rfl := Option.some.inj (hg.symm.trans hg')
  obtain rfl := Option.some.inj (ht.symm.trans ht')
  exact ⟨cs.toList, fuel, p, fun i => by rw [World.var?_cell hg hvar i]; simp, hd⟩
theorem sort_cells {W : World} {fuel : Nat} {cs : List Value} {b : Bool} {p : List MemPlace} (h : DataW.trod (fun _ => ()) Tryd.prog W 0 (fun _ => true) false fuel 137 cs = some (.agg [.lit (.bool b)], p)) : cs[0]? = some (.bool b) := by
  obtain ⟨y0, n, hx, hl, h0⟩ := trod_struct1 Tryd.underlying137 h
  have hy : y0.1 = .lit (.bool b) := by have := (Prod.mk.inj hx).1; simpa using this.symm
  have e := lit_bool h0 hy
  simp only [List.drop_zero, cells_bool] at e
  cases cs with
  | nil => simp at e
  | cons c cs => simp at e; simp [e]
theorem take_get {cs : List Value} {o n j : Nat} {l : List Value} (h : (cs.drop o).take n = l) {v : Value} (hv : l[j]? = some v) : cs[o + j]? = some v := by
  rw [← h, List.getElem?_take] at hv
  split at hv
  · rwa [List.getElem?_drop] at hv
  · cases hv
theorem tab_of_laid {W : World} (h : laidMetH Tryd.prog laidAll W) : TabW W := by
  rw [MakeChecks.laidMetH_plain _ _ _ (by kernel_rfl)] at h
  have h1 := h.tail
  have h2 := h1.tail
  have h3 := h2.tail
  obtain ⟨cs3, f3, p3, c3, d3⟩ := laid_one h g_tab t_tab
  obtain ⟨cs1, f1, p1, c1, d1⟩ := laid_one h1 g_knd t_knd
  obtain ⟨cs0, f0, p0, c0, d0⟩ := laid_one h2 g_num t_num
  obtain ⟨cs2, f2, p2, c2, d2⟩ := laid_one h3 g_tru t_tru
  have hnum := (c0 0).trans (sort_cells d0)
  have htru := (c2 0).trans (sort_cells d2)
  rw [tab_data] at d3
  rw [knd_data] at d1
  have hk : ∀ i : Nat, i < 29 → W.cell? ⟨1, i * 6, none⟩ = some (.string (kRow i).1) ∧ W.cell? ⟨1, i * 6 + 1, none⟩ = some (.int .i64 (kRow i).2.1) ∧ W.cell? ⟨1, i * 6 + 2, none⟩ = some (.int .i64 (kRow i).2.2.1) ∧ W.cell? ⟨1, i * 6 + 3, none⟩ = some (.int .i64 (kRow i).2.2.2.1) ∧ W.cell? ⟨1, i * 6 + 4, none⟩ = some (.int .i64 (kRow i).2.2.2.2.1) ∧ W.cell? ⟨1, i * 6 + 5, none⟩ = some (.int .i64 (kRow i).2.2.2.2.2) := fun i hi => by
    obtain ⟨fu, y, hy, hd⟩ := arr_cells Tryd.underlying162 d1 i hi
    have hr : kTab[i]? = some (kRow i) := by unfold kRow; rw [List.getD_eq_getElem?_getD, List.getElem?_eq_getElem (show i < kTab.length from hi)]; rfl
    rw [List.getElem?_map, hr] at hd
    have hyk : y.1 = kData (kRow i) := (Option.some.inj hd).symm
    have e := kind_cells hy hyk
    rw [cells_kind] at e
    exact ⟨(c1 _).trans (take_get (j := 0) e rfl), (c1 _).trans (take_get (j := 1) e rfl), (c1 _).trans (take_get (j := 2) e rfl), (c1 _).trans (take_get (j := 3) e rfl), (c1 _).trans (take_get (j := 4) e rfl), (c1 _).trans (take_get (j := 5) e rfl)⟩
  have ht : ∀ i : Nat, i < 29 → W.cell? ⟨3, i * 5, none⟩ = some (.string (rRow i).1) ∧ W.cell? ⟨3, i * 5 + 1, none⟩ = some (.int .i64 (rRow i).2.1) ∧ W.cell? ⟨3, i * 5 + 2, none⟩ = some (.int .i64 (rRow i).2.2.1) ∧ W.cell? ⟨3, i * 5 + 3, none⟩ = some (.int .i64 (rRow i).2.2.2.1) ∧ W.cell? ⟨3, i * 5 + 4, none⟩ = some (.int .i64 (rRow i).2.2.2.2) := fun i hi => by
    obtain ⟨fu, y, hy, hd⟩ := arr_cells Tryd.underlying163 d3 i hi
    have hr : rTab[i]? = some (rRow i) := by unfold rRow; rw [List.getD_eq_getElem?_getD, List.getElem?_eq_getElem (show i < rTab.length from hi)]; rfl
    rw [List.getElem?_map, hr] at hd
    have hyk : y.1 = rData (rRow i) := (Option.some.inj hd).symm
    have e := trow_cells hy hyk
    rw [cells_trow] at e
    exact ⟨(c3 _).trans (take_get (j := 0) e rfl), (c3 _).trans (take_get (j := 1) e rfl), (c3 _).trans (take_get (j := 2) e rfl), (c3 _).trans (take_get (j := 3) e rfl), (c3 _).trans (take_get (j := 4) e rfl)⟩
  exact ⟨World.block_lt_of_cell? W _ (ht 0 (by omega)).1, hnum, htru, hk, ht⟩
theorem door_met (os : Os) (args : Array Value) : laidMetH Tryd.prog laidAll ((World.doorLaid Tryd.prog 200 os).forCall (fun _ _ => 0) ⟨#[], args, []⟩).memory :=
  laidMetH_of_parts3 (fuel := 8) (laidMet_of_run' 8 (by kernel_rfl) (by kernel_rfl)) (by kernel_rfl) (by kernel_rfl)
end Go.Proofs.YtmfbdmjgkcijcaaDoor.Opens
