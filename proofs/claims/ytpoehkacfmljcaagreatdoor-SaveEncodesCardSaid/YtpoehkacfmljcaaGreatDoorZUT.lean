/- The tables of the verifier, off the row's condition. -/
import Derived.Test.YtpoehkacfmljcaaGreatDoorZV
import Derived.Test.YtpoehkacfmljcaaGreatDoorZHB
import Derived.Stop.LaidErr
import Derived.Test.YtpoehkacfmljcaaGreatDoorZHA
set_option maxHeartbeats 4000000
set_option maxRecDepth 100000
namespace Go.Proofs.YtpoehkacfmljcaaGreatDoor.Opens
open Go.ChangeShapes Go.WideShapes Go.ChangeAt Go.RowKit Go.Joins Go.Proofs.YtpoehkacfmljcaaGreatDoor.M Go.Proofs.YtpoehkacfmljcaaGreatDoor.H
set_option linter.unusedVariables false
section
variable {H : Type} {enc : TypeId × Value → H} {W : World} {base : Nat} {sp : Nat → Bool} {held : Bool}
theorem lit_str {fuel : Nat} {cs : List Value} {y : DataW H × List MemPlace} {s : ByteArray} (h : DataW.trod enc Tryz.prog W base sp held fuel 9 cs = some y) (hy : y.1 = .lit (.string s.data.toList)) : cs = [.string s] := by
 obtain ⟨b, e, rfl, _⟩ := DataW.trod_string Tryz.underlying9 h
 simp only [DataW.lit.injEq, Lit.string.injEq] at hy
 rw [e]
 have : b = s := by
  cases b; cases s
  simpa using hy
 rw [this]
theorem lit_int {fuel : Nat} {cs : List Value} {y : DataW H × List MemPlace} {z : Int} (h : DataW.trod enc Tryz.prog W base sp held fuel 3 cs = some y) (hy : y.1 = .lit (.int .i64 z)) : cs = [.int .i64 z] := by
 obtain ⟨a, e, rfl, _⟩ := DataW.trod_int Tryz.underlying3 h
 simp only [DataW.lit.injEq, Lit.int.injEq, true_and] at hy
 rw [e, hy]
theorem lit_bool {fuel : Nat} {cs : List Value} {y : DataW H × List MemPlace} {z : Bool} (h : DataW.trod enc Tryz.prog W base sp held fuel 4 cs = some y) (hy : y.1 = .lit (.bool z)) : cs = [.bool z] := by
 obtain ⟨a, e, rfl⟩ := DataW.trod_bool Tryz.underlying4 h
 simp only [DataW.lit.injEq, Lit.bool.injEq] at hy
 rw [e, hy]
def kData (r : ByteArray × Int × Int × Int × Int × Int) : DataW H := .agg [.lit (.string r.1.data.toList), .lit (.int .i64 r.2.1), .lit (.int .i64 r.2.2.1), .lit (.int .i64 r.2.2.2.1), .lit (.int .i64 r.2.2.2.2.1), .lit (.int .i64 r.2.2.2.2.2)]
def rData (r : ByteArray × Int × Int × Int × Int) : DataW H := .agg [.lit (.string r.1.data.toList), .lit (.int .i64 r.2.1), .lit (.int .i64 r.2.2.1), .lit (.int .i64 r.2.2.2.1), .lit (.int .i64 r.2.2.2.2)]
theorem cells_kind : Tryz.prog.cellsOf 187 = 6 := by kernel_rfl
theorem cells_trow : Tryz.prog.cellsOf 205 = 5 := by kernel_rfl
theorem kind_cells {fuel : Nat} {cs : List Value} {y : DataW H × List MemPlace} {r : ByteArray × Int × Int × Int × Int × Int} (h : DataW.trod enc Tryz.prog W base sp held fuel 187 cs = some y) (hy : y.1 = kData r) : cs = [.string r.1, .int .i64 r.2.1, .int .i64 r.2.2.1, .int .i64 r.2.2.2.1, .int .i64 r.2.2.2.2.1, .int .i64 r.2.2.2.2.2] := by
 obtain ⟨xs, n, _, rfl, hl, hlen, hfs⟩ := DataW.trod_struct Tryz.underlying187 h
 rw [cells_kind] at hl
 match cs, hl with
 | [c0, c1, c2, c3, c4, c5], _ =>
  have f0 := hfs 0 _ rfl
  have f1 := hfs 1 _ rfl
  have f2 := hfs 2 _ rfl
  have f3 := hfs 3 _ rfl
  have f4 := hfs 4 _ rfl
  have f5 := hfs 5 _ rfl
  match xs, hlen with
  | [y0, y1, y2, y3, y4, y5], _ =>
   simp only [kData, List.map_cons, List.map_nil, DataW.agg.injEq, List.cons.injEq, and_true] at hy
   obtain ⟨h0, h1, h2, h3, h4, h5⟩ := hy
   have e0 := lit_str f0 h0
   have e1 := lit_int f1 h1
   have e2 := lit_int f2 h2
   have e3 := lit_int f3 h3
   have e4 := lit_int f4 h4
   have e5 := lit_int f5 h5
   simp [cells_str, cells_int] at e0 e1 e2 e3 e4 e5
   rw [e0, e1, e2, e3, e4, e5]
theorem trow_cells {fuel : Nat} {cs : List Value} {y : DataW H × List MemPlace} {r : ByteArray × Int × Int × Int × Int} (h : DataW.trod enc Tryz.prog W base sp held fuel 205 cs = some y) (hy : y.1 = rData r) : cs = [.string r.1, .int .i64 r.2.1, .int .i64 r.2.2.1, .int .i64 r.2.2.2.1, .int .i64 r.2.2.2.2] := by
 obtain ⟨xs, n, _, rfl, hl, hlen, hfs⟩ := DataW.trod_struct Tryz.underlying205 h
 rw [cells_trow] at hl
 match cs, hl with
 | [c0, c1, c2, c3, c4], _ =>
  have f0 := hfs 0 _ rfl
  have f1 := hfs 1 _ rfl
  have f2 := hfs 2 _ rfl
  have f3 := hfs 3 _ rfl
  have f4 := hfs 4 _ rfl
  match xs, hlen with
  | [y0, y1, y2, y3, y4], _ =>
   simp only [rData, List.map_cons, List.map_nil, DataW.agg.injEq, List.cons.injEq, and_true] at hy
   obtain ⟨h0, h1, h2, h3, h4⟩ := hy
   have e0 := lit_str f0 h0
   have e1 := lit_int f1 h1
   have e2 := lit_int f2 h2
   have e3 := lit_int f3 h3
   have e4 := lit_int f4 h4
   simp [cells_str, cells_int] at e0 e1 e2 e3 e4
   rw [e0, e1, e2, e3, e4]
theorem arr_cells {t e n : Nat} {fuel : Nat} {cs : List Value} {ds : List (DataW H)} {p : List MemPlace} (ht : Tryz.prog.underlying t = some (.array n e)) (h : DataW.trod enc Tryz.prog W base sp held fuel t cs = some (.agg ds, p)) :
  ∀ i, i < n → ∃ fu y, DataW.trod enc Tryz.prog W base sp held fu e ((cs.drop (i * Tryz.prog.cellsOf e)).take (Tryz.prog.cellsOf e)) = some y ∧ ds[i]? = some y.1 := by
 cases fuel with
 | zero => simp [DataW.trod] at h
 | succ fuel =>
  simp only [DataW.trod, ht] at h
  split at h
  ·obtain ⟨xs, hm, hx⟩ := Option.map_eq_some_iff.1 h
   have hxs : xs.map (·.1) = ds := by have := congrArg Prod.fst hx; simpa using this
   intro i hi
   obtain ⟨b, hb, hf⟩ := Lib.mapM_at hm i i (by simp [hi])
   exact ⟨fuel, b, hf, by rw [← hxs]; simp [hb]⟩
  ·cases h
end
abbrev laidAll : List (String × DataW Unit) := [("payoff/payoffref11.table", Rows.laid_payoff_payoffref11_table), ("payoff/code.kinds", Rows.laid_payoff_code_kinds), ("payoff/verify.number", Rows.laid_payoff_verify_number), ("payoff/verify.truth", Rows.laid_payoff_verify_truth)]
theorem tab_data {H : Type} : (Rows.laid_payoff_payoffref11_table : DataW H) = .agg (rTab.map rData) := by kernel_rfl
theorem knd_data {H : Type} : (Rows.laid_payoff_code_kinds : DataW H) = .agg (kTab.map kData) := by kernel_rfl
theorem g_num : Tryz.prog.globalNamed "payoff/verify.number" = some 2 := by kernel_rfl
theorem g_knd : Tryz.prog.globalNamed "payoff/code.kinds" = some 0 := by kernel_rfl
theorem g_tru : Tryz.prog.globalNamed "payoff/verify.truth" = some 3 := by kernel_rfl
theorem g_tab : Tryz.prog.globalNamed "payoff/payoffref11.table" = some 1 := by kernel_rfl
theorem t_num : (Tryz.prog.globals[2]?).map (·.type) = some 251 := by kernel_rfl
theorem t_knd : (Tryz.prog.globals[0]?).map (·.type) = some 188 := by kernel_rfl
theorem t_tru : (Tryz.prog.globals[3]?).map (·.type) = some 251 := by kernel_rfl
theorem t_tab : (Tryz.prog.globals[1]?).map (·.type) = some 248 := by kernel_rfl
theorem laid_one {n : String} {d : DataW Unit} {r : List (String × DataW Unit)} {W : World} (h : laidMet Tryz.prog ((n, d) :: r) W) {g t : Nat} (hg : Tryz.prog.globalNamed n = some g) (ht : (Tryz.prog.globals[g]?).map (·.type) = some t) :
  ∃ cs fuel p, (∀ i, W.cell? ⟨g, i, none⟩ = cs[i]?) ∧ DataW.trod (fun _ => ()) Tryz.prog W 0 (fun _ => true) false fuel t cs = some (d, p) := by
 obtain ⟨ps, ⟨g', t', cs, fuel, p, q, hg', ht', hvar, hd, _, _⟩, _⟩ := h
 obtain rfl := Option.some.inj (hg.symm.trans hg')
 obtain rfl := Option.some.inj (ht.symm.trans ht')
 exact ⟨cs.toList, fuel, p, fun i => by rw [World.var?_cell hg hvar i]; simp, hd⟩
theorem sort_cells {W : World} {fuel : Nat} {cs : List Value} {b : Bool} {p : List MemPlace} (h : DataW.trod (fun _ => ()) Tryz.prog W 0 (fun _ => true) false fuel 251 cs = some (.agg [.lit (.bool b)], p)) : cs[0]? = some (.bool b) := by
 obtain ⟨y0, n, hx, hl, h0⟩ := trod_struct1 Tryz.underlying251 h
 have hy : y0.1 = .lit (.bool b) := by have := (Prod.mk.inj hx).1; simpa using this.symm
 have e := lit_bool h0 hy
 simp only [List.drop_zero, cells_bool] at e
 cases cs with
 | nil => simp at e
 | cons c cs => simp at e; simp [e]
theorem take_get {cs : List Value} {o n j : Nat} {l : List Value} (h : (cs.drop o).take n = l) {v : Value} (hv : l[j]? = some v) : cs[o + j]? = some v := by
 rw [← h, List.getElem?_take] at hv
 split at hv
 ·rwa [List.getElem?_drop] at hv
 ·cases hv
theorem tab_of_laid {W : World} (h : laidMetH Tryz.prog laidAll W) : TabW W := by
 rw [MakeChecks.laidMetH_plain _ _ _ (by kernel_rfl)] at h
 have h1 := h.tail
 have h2 := h1.tail
 have h3 := h2.tail
 obtain ⟨cs3, f3, p3, c3, d3⟩ := laid_one h g_tab t_tab
 obtain ⟨cs1, f1, p1, c1, d1⟩ := laid_one h1 g_knd t_knd
 obtain ⟨cs0, f0, p0, c0, d0⟩ := laid_one h2 g_num t_num
 obtain ⟨cs2, f2, p2, c2, d2⟩ := laid_one h3 g_tru t_tru
 have hnum := (c0 0).trans (sort_cells d0)
 have htru := (c2 0).trans (sort_cells d2)
 rw [tab_data] at d3
 rw [knd_data] at d1
 have hk : ∀ i : Nat, i < 29 → W.cell? ⟨0, i * 6, none⟩ = some (.string (kRow i).1) ∧ W.cell? ⟨0, i * 6 + 1, none⟩ = some (.int .i64 (kRow i).2.1) ∧ W.cell? ⟨0, i * 6 + 2, none⟩ = some (.int .i64 (kRow i).2.2.1) ∧ W.cell? ⟨0, i * 6 + 3, none⟩ = some (.int .i64 (kRow i).2.2.2.1) ∧ W.cell? ⟨0, i * 6 + 4, none⟩ = some (.int .i64 (kRow i).2.2.2.2.1) ∧ W.cell? ⟨0, i * 6 + 5, none⟩ = some (.int .i64 (kRow i).2.2.2.2.2) := fun i hi => by
  obtain ⟨fu, y, hy, hd⟩ := arr_cells Tryz.underlying188 d1 i hi
  have hr : kTab[i]? = some (kRow i) := by unfold kRow; rw [List.getD_eq_getElem?_getD, List.getElem?_eq_getElem (show i < kTab.length from hi)]; rfl
  rw [List.getElem?_map, hr] at hd
  have hyk : y.1 = kData (kRow i) := (Option.some.inj hd).symm
  have e := kind_cells hy hyk
  rw [cells_kind] at e
  exact ⟨(c1 _).trans (take_get (j := 0) e rfl), (c1 _).trans (take_get (j := 1) e rfl), (c1 _).trans (take_get (j := 2) e rfl), (c1 _).trans (take_get (j := 3) e rfl), (c1 _).trans (take_get (j := 4) e rfl), (c1 _).trans (take_get (j := 5) e rfl)⟩
 have ht : ∀ i : Nat, i < 29 → W.cell? ⟨1, i * 5, none⟩ = some (.string (rRow i).1) ∧ W.cell? ⟨1, i * 5 + 1, none⟩ = some (.int .i64 (rRow i).2.1) ∧ W.cell? ⟨1, i * 5 + 2, none⟩ = some (.int .i64 (rRow i).2.2.1) ∧ W.cell? ⟨1, i * 5 + 3, none⟩ = some (.int .i64 (rRow i).2.2.2.1) ∧ W.cell? ⟨1, i * 5 + 4, none⟩ = some (.int .i64 (rRow i).2.2.2.2) := fun i hi => by
  obtain ⟨fu, y, hy, hd⟩ := arr_cells Tryz.underlying248 d3 i hi
  have hr : rTab[i]? = some (rRow i) := by unfold rRow; rw [List.getD_eq_getElem?_getD, List.getElem?_eq_getElem (show i < rTab.length from hi)]; rfl
  rw [List.getElem?_map, hr] at hd
  have hyk : y.1 = rData (rRow i) := (Option.some.inj hd).symm
  have e := trow_cells hy hyk
  rw [cells_trow] at e
  exact ⟨(c3 _).trans (take_get (j := 0) e rfl), (c3 _).trans (take_get (j := 1) e rfl), (c3 _).trans (take_get (j := 2) e rfl), (c3 _).trans (take_get (j := 3) e rfl), (c3 _).trans (take_get (j := 4) e rfl)⟩
 have q0 := World.block_lt_of_cell? W _ (ht 0 (by omega)).1
 have q1 := World.block_lt_of_cell? W _ (hk 0 (by omega)).1
 have q2 := World.block_lt_of_cell? W _ hnum
 have q3 := World.block_lt_of_cell? W _ htru
 exact ⟨by simp only at q0 q1 q2 q3; omega, hnum, htru, hk, ht⟩
theorem door_met (os : Os) (args : Array Value) : laidMetH Tryz.prog laidAll ((World.doorLaid Tryz.prog 200 os).forCall (fun _ _ => 0) ⟨#[], args, []⟩).memory :=
 laidMetH_of_parts3 (fuel := 8) (laidMet_of_run' 8 (by kernel_rfl) (by kernel_rfl)) (by kernel_rfl) (by kernel_rfl)
end Go.Proofs.YtpoehkacfmljcaaGreatDoor.Opens
namespace Go.Proofs.YtpoehkacfmljcaaGreatDoor.M
open Go.RowKit Go.Proofs.YtpoehkacfmljcaaGreatDoorW.PrintWords Go.Proofs.YtpoehkacfmljcaaGreatDoorW.PrintLast Go.Proofs.YtpoehkacfmljcaaGreatDoorW.PrintMore
attribute [local go_sem] max2_int min2_int max_two min_two max_three min_three max_four min_four   -- for this text's walks alone
set_option linter.unusedVariables false
set_option linter.unusedSimpArgs false

/-! ### octet_zigzag: function 19 -/
def octet_zigzag.f (a0 : Int) : Option (Int) := some (Go.bits .xor .u64 (IntKind.u64.wrap ((IntKind.u64.wrap (a0)) * 2)) (IntKind.u64.wrap (a0 / 9223372036854775808)))
set_option maxHeartbeats 8000000 in
set_option maxRecDepth 100000 in
theorem octet_zigzag.calls (a0 : Int) (r : Int) (w : World) (h : octet_zigzag.f a0 = some r) :
  Calls Tryz.prog 19 #[.int .i64 a0] w fun e w' => e = .returned (.int .u64 r) ∧ Drawn0 w w' := by
 have H : (some (Go.bits .xor .u64 (IntKind.u64.wrap ((IntKind.u64.wrap (a0)) * 2)) (IntKind.u64.wrap (a0 / 9223372036854775808)))) = some r := h
 clear h
 obtain rfl := Option.some.inj H
 go_enter Tryz.func19, Tryz.ntmps19
 go_wp2
 go_ret
 exact ⟨by first | rfl | (simp; done) | (simp [*]; done), by repeat (first | exact Drawn0.refl _ | apply Drawn0.step)⟩


/-! ### payoffref04_Zigzag: function 44 -/
def payoffref04_Zigzag.f (a0 : Int) : Option (Int) := if a0 ≥ 0 then (some (IntKind.u64.wrap (2 * (IntKind.u64.wrap (a0))))) else (some (IntKind.u64.wrap ((IntKind.u64.wrap (2 * (IntKind.u64.wrap (wrap64 (-(wrap64 (a0 + 1))))))) + 1)))
set_option maxHeartbeats 8000000 in
set_option maxRecDepth 100000 in
theorem payoffref04_Zigzag.calls (a0 : Int) (r : Int) (w : World) (h : payoffref04_Zigzag.f a0 = some r) :
  Calls Tryz.prog 44 #[.int .i64 a0] w fun e w' => e = .returned (.int .u64 r) ∧ Drawn0 w w' := by
 have H : (if a0 ≥ 0 then (some (IntKind.u64.wrap (2 * (IntKind.u64.wrap (a0))))) else (some (IntKind.u64.wrap ((IntKind.u64.wrap (2 * (IntKind.u64.wrap (wrap64 (-(wrap64 (a0 + 1))))))) + 1)))) = some r := h
 clear h
 by_cases c2 : a0 ≥ 0
 ·rw [if_pos c2] at H
  have c2b0 : decide (0 ≤ a0) = true := decide_eq_true c2
  clear c2
  obtain rfl := Option.some.inj H
  go_enter Tryz.func44, Tryz.ntmps44
  go_wp2
  go_ret
  exact ⟨by first | rfl | (simp; done) | (simp [*]; done), by repeat (first | exact Drawn0.refl _ | apply Drawn0.step)⟩
 ·rw [if_neg c2] at H
  have c2b0 : decide (0 ≤ a0) = false := decide_eq_false c2
  clear c2
  obtain rfl := Option.some.inj H
  go_enter Tryz.func44, Tryz.ntmps44
  go_wp2
  go_ret
  exact ⟨by first | rfl | (simp; done) | (simp [*]; done), by repeat (first | exact Drawn0.refl _ | apply Drawn0.step)⟩


/-! ### payoffref04_Varint: function 27 -/
def payoffref04_Varint.l0 : Nat → Int → List Int → Option (List Int)
 | 0, _, _ => none
 | k + 1, x0, x3 => if x0 ≥ 128 then (if x3.length < 140737488355328 then (payoffref04_Varint.l0 k (IntKind.u64.wrap (Int.tdiv x0 128)) (x3 ++ [(IntKind.u64.wrap ((Int.tmod x0 128) + 128)) % 256])) else (none)) else (if x3.length < 140737488355328 then (some (x3 ++ [(x0) % 256])) else (none))
def payoffref04_Varint.f (k : Nat) (a0 : Int) : Option (List Int) := payoffref04_Varint.l0 k a0 ([] : List Int)
set_option maxHeartbeats 8000000 in
set_option maxRecDepth 100000 in
theorem payoffref04_Varint.calls (k : Nat) (a0 : Int) (r : List Int) (w : World) (h : payoffref04_Varint.f k a0 = some r) :
  Calls Tryz.prog 27 #[.int .u64 a0] w fun e w' => ∃ v0_ : Value, e = .returned (v0_) ∧ Kd.R (Kd.int .u8) 5 w' w.heap.size (fun _ => True) v0_ r ∧ Below w.heap.size w w' := by
 have HB := Aside0.mk (Below.refl w.heap.size w)
 have H : (payoffref04_Varint.l0 k a0 ([] : List Int)) = some r := h
 clear h
 have H' := Aside0.mk H
 clear H
 go_enter Tryz.func27, Tryz.ntmps27
 go_wp2
 go_loopg [0, 3] k (fun kq v0 v3 w' => ∃ (x0_1 : Int) (x3_1 : List Int), v0 = .int .u64 x0_1 ∧ Aside0 (payoffref04_Varint.l0 kq x0_1 x3_1 = some r) ∧ Aside0 (kq ≤ k) ∧ Aside0 (Kd.R (Kd.int .u8) 5 w' w.heap.size (fun _ => True) v3 x3_1) ∧ Aside0 (Below w.heap.size w w'))
 case atStart => exact ⟨(a0), (([] : List Int)), (by first | rfl | (simp; done) | (simp [*]; done)), H', ⟨Nat.le_refl _⟩, ⟨by first | exact Kd.R_nil _ _ _ _ _ | exact Kd.N_nil _ _ _ _ _ | exact Kd.V_nil _ _ _ _ _ | exact Kd.Q_nil _ _ _ _ _ | exact Kd.S_nil _ _ _ _ _⟩, ⟨by repeat (first | (with_reducible first | exact HB.out | apply below_alloc | apply pw_below_drewN | apply below_drew1) | exact HB.out)⟩⟩
 case round =>
  clear H'
  obtain ⟨x0_1, x3_1, rfl, HA, HK1, HO_3, HB⟩ := hrel
  cases gk with
  | zero => exact absurd HA.out (by simp [payoffref04_Varint.l0])
  | succ k1 =>
   have H := HA.out
   clear HA
   simp only [payoffref04_Varint.l0] at H
   by_cases c2 : x0_1 ≥ 128
   ·rw [if_pos c2] at H
    have c2b0 : decide (128 ≤ x0_1) = true := decide_eq_true c2
    clear c2
    by_cases c3 : x3_1.length < 140737488355328
    ·rw [if_pos c3] at H
     have LMc3 := Aside0.mk c3
     clear c3
     obtain ⟨y101, hy101⟩ : ∃ y_ : List Int, y_ = (x3_1 ++ [(IntKind.u64.wrap ((Int.tmod x0_1 128) + 128)) % 256]) := ⟨_, rfl⟩
     replace H : (payoffref04_Varint.l0 k1 (IntKind.u64.wrap (Int.tdiv x0_1 128)) y101) = some r := by first | (rw [hy101]; with_reducible exact H) | (have H2_ := (Option.bind_some _ _).symm.trans H; rw [hy101]; with_reducible exact H2_) | (have H2_ := (Option.bind_some _ _).symm.trans H; with_reducible exact H2_) | with_reducible exact H | (rw [hy101]; exact H) | exact H
     have Ny101 := Aside0.mk hy101
     clear hy101
     have H' := Aside0.mk H
     clear H
     go_wp2_with (first | ((with_reducible refine gate_builtin (b := .append) (xs := #[.tmp 6, .tmp 11]) rfl ?_); at_builtin; refine Kd.R_append (Kd.int .u8) (w0 := w) w.heap.size rfl (.tmp 6) (.tmp 11) 32 5 (.int .u8 0) 1 rfl Tryz.underlying32 info5 rfl (by decide) (by omega) u3 x3_1 ((IntKind.u64.wrap ((Int.tmod x0_1 128) + 128)) % 256) [.int .u8 ((IntKind.u64.wrap ((Int.tmod x0_1 128) + 128)) % 256)] (fun _ => True) (fun _ => False) rfl rfl ?aP (fun _ hk => hk.elim) ?aF ?aO ?aB ?aS ?aL ?_; (case aP => exact rfl); (case aB => exact (by repeat (first | (with_reducible first | exact HB.out | apply below_alloc | apply pw_below_drewN | apply below_drew1) | exact HB.out))); (case aF => exact (fun _ _ => trivial)); (case aO => exact (by (with_reducible repeat (first | apply Kd.R_alloc | apply Kd.R_drewN | apply Kd.R_drew)); exact HO_3.out)); (case aS => exact (below_size (by repeat (first | (with_reducible first | exact HB.out | apply below_alloc | apply pw_below_drewN | apply below_drew1) | exact HB.out)))); (case aL => have := LMc3.out; omega); intro v102 w4 ho hb hg hat; rw [← Ny101.out] at ho; have n0_ := Aside0.mk (hb); have n1_ := Aside0.mk (ho); clear HB; clear HO_3; have HB := n0_; have HO103 := n1_; clear n0_ n1_; clear ho hb hg hat))
     go_roundg k1
     case measure => have := HK1.out; omega
     case rel => exact ⟨(IntKind.u64.wrap (Int.tdiv x0_1 128)), (y101), (by first | rfl | (simp; done) | (simp [*]; done)), H', ⟨by have := HK1.out; omega⟩, ⟨by (with_reducible repeat (first | apply Kd.R_alloc | apply Kd.R_drewN | apply Kd.R_drew)); exact HO103.out⟩, ⟨by repeat (first | (with_reducible first | exact HB.out | apply below_alloc | apply pw_below_drewN | apply below_drew1) | exact HB.out)⟩⟩
    ·rw [if_neg c3] at H
     exact absurd H (by simp)
   ·rw [if_neg c2] at H
    have c2b0 : decide (128 ≤ x0_1) = false := decide_eq_false c2
    clear c2
    by_cases c5 : x3_1.length < 140737488355328
    ·rw [if_pos c5] at H
     have LMc5 := Aside0.mk c5
     clear c5
     obtain ⟨y104, hy104⟩ : ∃ y_ : List Int, y_ = (x3_1 ++ [(x0_1) % 256]) := ⟨_, rfl⟩
     replace H : (some y104) = some r := by first | (rw [hy104]; with_reducible exact H) | (have H2_ := (Option.bind_some _ _).symm.trans H; rw [hy104]; with_reducible exact H2_) | (have H2_ := (Option.bind_some _ _).symm.trans H; with_reducible exact H2_) | with_reducible exact H | (rw [hy104]; exact H) | exact H
     have Ny104 := Aside0.mk hy104
     clear hy104
     obtain rfl := Option.some.inj H
     go_wp2_with (first | ((with_reducible refine gate_builtin (b := .append) (xs := #[.tmp 15, .tmp 18]) rfl ?_); at_builtin; refine Kd.R_append (Kd.int .u8) (w0 := w) w.heap.size rfl (.tmp 15) (.tmp 18) 32 5 (.int .u8 0) 1 rfl Tryz.underlying32 info5 rfl (by decide) (by omega) u3 x3_1 ((x0_1) % 256) [.int .u8 ((x0_1) % 256)] (fun _ => True) (fun _ => False) rfl rfl ?aP (fun _ hk => hk.elim) ?aF ?aO ?aB ?aS ?aL ?_; (case aP => exact rfl); (case aB => exact (by repeat (first | (with_reducible first | exact HB.out | apply below_alloc | apply pw_below_drewN | apply below_drew1) | exact HB.out))); (case aF => exact (fun _ _ => trivial)); (case aO => exact (by (with_reducible repeat (first | apply Kd.R_alloc | apply Kd.R_drewN | apply Kd.R_drew)); exact HO_3.out)); (case aS => exact (below_size (by repeat (first | (with_reducible first | exact HB.out | apply below_alloc | apply pw_below_drewN | apply below_drew1) | exact HB.out)))); (case aL => have := LMc5.out; omega); intro v105 w6 ho hb hg hat; rw [← Ny104.out] at ho; have n0_ := Aside0.mk (hb); have n1_ := Aside0.mk (ho); clear HB; clear HO_3; have HB := n0_; have HO106 := n1_; clear n0_ n1_; clear ho hb hg hat))
     go_ret
     exact ⟨_, by first | rfl | (simp [errW_none, errW_some] <;> rfl) | (simp [*, errW_none, errW_some] <;> rfl), by (with_reducible repeat (first | apply Kd.R_alloc | apply Kd.R_drewN | apply Kd.R_drew)); exact HO106.out, by repeat (first | (with_reducible first | exact HB.out | apply below_alloc | apply pw_below_drewN | apply below_drew1) | exact HB.out)⟩
    ·rw [if_neg c5] at H
     exact absurd H (by simp)

end Go.Proofs.YtpoehkacfmljcaaGreatDoor.M
namespace Go.Proofs.YtpoehkacfmljcaaGreatDoor.H
open Go.RowKit Go.Proofs.YtpoehkacfmljcaaGreatDoorW.PrintWords Go.Proofs.YtpoehkacfmljcaaGreatDoorW.PrintLast Go.Proofs.YtpoehkacfmljcaaGreatDoorW.PrintMore
open Go.ChangeMaps (setBlock)
attribute [local go_sem] max2_int min2_int max_two min_two max_three min_three max_four min_four
set_option linter.unusedVariables false
set_option linter.unusedSimpArgs false
open Go.Proofs.YtpoehkacfmljcaaGreatDoor.M
def uvar (x : Nat) : List Int := if x < 128 then [(x : Int)] else ((x % 128 + 128 : Nat) : Int) :: uvar (x / 128)
termination_by x
decreasing_by omega
theorem uvar_small {x : Nat} (h : x < 128) : uvar x = [(x : Int)] := by rw [uvar, if_pos h]
theorem uvar_big {x : Nat} (h : ¬ x < 128) : uvar x = ((x % 128 + 128 : Nat) : Int) :: uvar (x / 128) := by rw [uvar, if_neg h]
theorem uvar_len : ∀ (n x : Nat), x < 128 ^ n → (uvar x).length ≤ n + 1
 | 0, x, h => by rw [uvar_small (by omega)]; simp
 | n + 1, x, h => by
  by_cases hx : x < 128
  ·rw [uvar_small hx]; simp
  ·rw [uvar_big hx, List.length_cons]
   have := uvar_len n (x / 128) (by rw [Nat.div_lt_iff_lt_mul (by decide)]; rwa [Nat.pow_succ] at h)
   omega
theorem uvar_len64 {x : Nat} (h : x < 18446744073709551616) : (uvar x).length ≤ 11 := uvar_len 10 x (Nat.lt_of_lt_of_le h (by decide))
theorem uvar_byte : ∀ (n x : Nat), x < 128 ^ n → ∀ b ∈ uvar x, 0 ≤ b ∧ b < 256
 | 0, x, h => by rw [uvar_small (by omega)]; simp; omega
 | n + 1, x, h => by
  by_cases hx : x < 128
  ·rw [uvar_small hx]; simp; omega
  ·rw [uvar_big hx]
   intro b hb
   rcases List.mem_cons.1 hb with rfl | hb
   ·omega
   ·exact uvar_byte n (x / 128) (by rw [Nat.div_lt_iff_lt_mul (by decide)]; rwa [Nat.pow_succ] at h) b hb
theorem uvar_byte64 {x : Nat} (h : x < 18446744073709551616) : ∀ b ∈ uvar x, 0 ≤ b ∧ b < 256 := uvar_byte 10 x (Nat.lt_of_lt_of_le h (by decide))
theorem or128 (x : Nat) : Go.bits .or .u8 ((x : Int) % 256) 128 = ((x % 128 + 128 : Nat) : Int) := by
 have hk : ∀ i : Fin 256, Go.bits .or .u8 (((i : Nat) : Int)) 128 = (((i : Nat) % 128 + 128 : Nat) : Int) := by decide +kernel
 have := hk ⟨x % 256, by omega⟩
 simp only at this
 rw [show (x : Int) % 256 = ((x % 256 : Nat) : Int) by omega, this]
 omega
theorem varint_l0 : ∀ (n x : Nat) (l : List Int), x < 18446744073709551616 → x < 128 ^ n → l.length + n < 140737488355320 → payoffref04_Varint.l0 (n + 1) x l = some (l ++ uvar x)
 | 0, x, l, _, h, hl => by
  have hx : x < 128 := by omega
  unfold payoffref04_Varint.l0
  rw [if_neg (show ¬ ((x : Int) ≥ 128) by omega), if_pos (by omega), uvar_small hx, show (x : Int) % 256 = x by omega]
 | n + 1, x, l, h6, h, hl => by
  by_cases hx : x < 128
  ·unfold payoffref04_Varint.l0
   rw [if_neg (show ¬ ((x : Int) ≥ 128) by omega), if_pos (by omega), uvar_small hx, show (x : Int) % 256 = x by omega]
  ·unfold payoffref04_Varint.l0
   have hd : IntKind.u64.wrap (Int.tdiv (x : Int) 128) = ((x / 128 : Nat) : Int) := by
    rw [Int.tdiv_eq_ediv_of_nonneg (by omega)]
    simp only [IntKind.wrap, IntKind.bits, IntKind.signed]
    simp
    omega
   have hm : (IntKind.u64.wrap ((Int.tmod (x : Int) 128) + 128)) % 256 = ((x % 128 + 128 : Nat) : Int) := by
    rw [Int.tmod_eq_emod_of_nonneg (by omega)]
    simp only [IntKind.wrap, IntKind.bits, IntKind.signed]
    simp
    omega
   rw [if_pos (show ((x : Int) ≥ 128) by omega), if_pos (by omega), hd, hm, varint_l0 n (x / 128) _ (by omega) (by rw [Nat.div_lt_iff_lt_mul (by decide)]; rwa [Nat.pow_succ] at h) (by rw [List.length_append]; simp; omega), uvar_big hx]
   simp
theorem varint_f {x : Nat} (h : x < 18446744073709551616) : payoffref04_Varint.f 11 x = some (uvar x) :=
 varint_l0 10 x [] h (Nat.lt_of_lt_of_le h (by decide)) (by simp)
def zig (a : Int) : Nat := if 0 ≤ a then (2 * a).toNat else (-2 * a - 1).toNat
theorem zig_lt {a : Int} (h : -9223372036854775808 ≤ a ∧ a < 9223372036854775808) : zig a < 18446744073709551616 := by unfold zig; split <;> omega
theorem rzig_f {a : Int} (h : -9223372036854775808 ≤ a ∧ a < 9223372036854775808) : payoffref04_Zigzag.f a = some ((zig a : Nat) : Int) := by
 unfold payoffref04_Zigzag.f zig
 by_cases ha : 0 ≤ a
 ·rw [if_pos (show a ≥ 0 from ha), if_pos ha]
  simp only [IntKind.wrap, IntKind.bits, IntKind.signed]
  simp
  omega
 ·rw [if_neg (show ¬ a ≥ 0 from ha), if_neg ha]
  have e1 : wrap64 (-(wrap64 (a + 1))) = -(a + 1) := by unfold wrap64; omega
  rw [e1]
  simp only [IntKind.wrap, IntKind.bits, IntKind.signed]
  simp
  omega
theorem wrapU (x : Int) : IntKind.u64.wrap x = x % 18446744073709551616 := by
 simp only [IntKind.wrap, IntKind.bits, IntKind.signed]
 simp
theorem xor64 (a b : BitVec 64) : Go.bits .xor .u64 ((a.toNat : Nat) : Int) ((b.toNat : Nat) : Int) = (((a ^^^ b).toNat : Nat) : Int) := by
 have h : Go.bits .xor .u64 ((a.toNat : Nat) : Int) ((b.toNat : Nat) : Int) = IntKind.u64.wrap (((BitVec.ofInt 64 ((a.toNat : Nat) : Int) ^^^ BitVec.ofInt 64 ((b.toNat : Nat) : Int)).toNat : Nat) : Int) := rfl
 rw [h, BitVec.ofInt_natCast, BitVec.ofInt_natCast, BitVec.ofNat_toNat, BitVec.ofNat_toNat, BitVec.setWidth_eq, BitVec.setWidth_eq]
 have := (a ^^^ b).isLt
 rw [wrapU]
 omega
theorem pzig_f {a : Int} (h : -9223372036854775808 ≤ a ∧ a < 9223372036854775808) : octet_zigzag.f a = some ((zig a : Nat) : Int) := by
 unfold octet_zigzag.f zig
 by_cases ha : 0 ≤ a
 ·have e1 : IntKind.u64.wrap ((IntKind.u64.wrap a) * 2) = (((BitVec.ofNat 64 (2 * a).toNat).toNat : Nat) : Int) := by
   rw [BitVec.toNat_ofNat, Nat.mod_eq_of_lt (by omega)]
   rw [wrapU, wrapU]
   omega
  have e2 : IntKind.u64.wrap (a / 9223372036854775808) = (((0#64).toNat : Nat) : Int) := by
   rw [show a / 9223372036854775808 = 0 by omega]
   rfl
  rw [e1, e2, xor64, BitVec.xor_zero, BitVec.toNat_ofNat, Nat.mod_eq_of_lt (by omega), if_pos ha]
 ·have e1 : IntKind.u64.wrap ((IntKind.u64.wrap a) * 2) = (((~~~ (BitVec.ofNat 64 (-2 * a - 1).toNat)).toNat : Nat) : Int) := by
   rw [BitVec.toNat_not, BitVec.toNat_ofNat, Nat.mod_eq_of_lt (by omega)]
   rw [wrapU, wrapU]
   omega
  have e2 : IntKind.u64.wrap (a / 9223372036854775808) = (((BitVec.allOnes 64).toNat : Nat) : Int) := by
   rw [show a / 9223372036854775808 = -1 by omega]
   rfl
  rw [e1, e2, xor64, BitVec.xor_allOnes, BitVec.not_not, BitVec.toNat_ofNat, Nat.mod_eq_of_lt (by omega), if_neg ha]
def cpol : BitVec 32 := 0xEDB88320#32
def cf (x : BitVec 32) : BitVec 32 := (x >>> 1) ^^^ (if x.getLsbD 0 then cpol else 0#32)
theorem cx4 (a b p q : BitVec 32) : (a ^^^ b) ^^^ (p ^^^ q) = (a ^^^ p) ^^^ (b ^^^ q) := by
 apply BitVec.eq_of_getLsbD_eq
 intro i _
 simp only [BitVec.getLsbD_xor]
 cases a.getLsbD i <;> cases b.getLsbD i <;> cases p.getLsbD i <;> cases q.getLsbD i <;> rfl
theorem cf_xor (x y : BitVec 32) : cf (x ^^^ y) = cf x ^^^ cf y := by
 unfold cf
 rw [BitVec.ushiftRight_xor_distrib, BitVec.getLsbD_xor, ← cx4]
 congr 1
 cases x.getLsbD 0 <;> cases y.getLsbD 0 <;> decide
theorem cf_shl (y : BitVec 32) (n : Nat) (h : ∀ i, 31 - n ≤ i → y.getLsbD i = false) : cf (y <<< (n + 1)) = y <<< n := by
 unfold cf
 have h0 : (y <<< (n + 1)).getLsbD 0 = false := by simp
 rw [h0]
 apply BitVec.eq_of_getLsbD_eq
 intro i hi
 simp [BitVec.getLsbD_shiftLeft, BitVec.getLsbD_ushiftRight]
 by_cases h1 : i < n
 ·simp [h1, show 1 + i < n + 1 by omega]
 ·have e : 1 + i - (n + 1) = i - n := by omega
  rw [e]
  by_cases h2 : 1 + i < 32
  ·simp [h1, h2, hi, show ¬ (1 + i < n + 1) by omega]
  ·have : i = 31 := by omega
   subst this
   have := h (31 - n) (by omega)
   simp [this]
def cf4 (x : BitVec 32) : BitVec 32 := cf (cf (cf (cf x)))
theorem cf4_xor (x y : BitVec 32) : cf4 (x ^^^ y) = cf4 x ^^^ cf4 y := by simp only [cf4, cf_xor]
theorem cf4_split (x : BitVec 32) : cf4 x = cf4 (x &&& 15#32) ^^^ (x >>> 4) := by
 have e : x = (x &&& 15#32) ^^^ ((x >>> 4) <<< 4) := by
  apply BitVec.eq_of_getLsbD_eq
  intro i hi
  rw [BitVec.getLsbD_xor, BitVec.getLsbD_and, BitVec.getLsbD_shiftLeft, BitVec.getLsbD_ushiftRight]
  by_cases h : i < 4
  ·have : (15#32).getLsbD i = true := by
    have : i = 0 ∨ i = 1 ∨ i = 2 ∨ i = 3 := by omega
    rcases this with rfl | rfl | rfl | rfl <;> rfl
   rw [this]
   simp [h]
  ·have : (15#32).getLsbD i = false := by
    rw [BitVec.getLsbD_ofNat]
    have : Nat.testBit 15 i = false := Nat.testBit_lt_two_pow (Nat.lt_of_lt_of_le (by decide : 15 < 2 ^ 4) (Nat.pow_le_pow_right (by decide) (by omega)))
    simp [this]
   rw [this]
   simp [h, hi, show 4 + (i - 4) = i by omega]
 have hz : ∀ i, 28 ≤ i → (x >>> 4).getLsbD i = false := by
  intro i hi
  rw [BitVec.getLsbD_ushiftRight]
  exact BitVec.getLsbD_of_ge _ _ (by omega)
 have h4 : cf4 ((x >>> 4) <<< 4) = x >>> 4 := by
  unfold cf4
  rw [cf_shl _ 3 (fun i hi => hz i (by omega)), cf_shl _ 2 (fun i hi => hz i (by omega)), cf_shl _ 1 (fun i hi => hz i (by omega)), cf_shl _ 0 (fun i hi => hz i (by omega))]
  simp
 conv => lhs; rw [e]
 rw [cf4_xor, h4]
def cbit (b : Bool) : BitVec 32 := if b then 1#32 else 0#32
def cg (c : BitVec 32) (b : Bool) : BitVec 32 := (c >>> 1) ^^^ (if c.getLsbD 0 != b then cpol else 0#32)
theorem cf_bit (b : Bool) : cf (cbit b) = if b then cpol else 0#32 := by cases b <;> decide
theorem cg_eq (c : BitVec 32) (b : Bool) : cg c b = cf (c ^^^ cbit b) := by
 rw [cf_xor, cf_bit]
 unfold cg cf
 rw [BitVec.xor_assoc]
 congr 1
 cases b <;> cases c.getLsbD 0 <;> decide
def cgs (c : BitVec 32) (b : BitVec 32) : Nat → BitVec 32
 | 0 => c
 | n + 1 => cg (cgs c b n) (b.getLsbD n)
theorem cgs_eq (c b : BitVec 32) (hb : ∀ i, 8 ≤ i → b.getLsbD i = false) : cgs c b 8 = cf4 (cf4 (c ^^^ b)) := by
 have e : b = cbit (b.getLsbD 0) ^^^ (cbit (b.getLsbD 1) <<< 1) ^^^ (cbit (b.getLsbD 2) <<< 2) ^^^ (cbit (b.getLsbD 3) <<< 3) ^^^ (cbit (b.getLsbD 4) <<< 4) ^^^ (cbit (b.getLsbD 5) <<< 5) ^^^ (cbit (b.getLsbD 6) <<< 6) ^^^ (cbit (b.getLsbD 7) <<< 7) := by
  have hbit : ∀ (x : Bool) (n i : Nat), i < 32 → (cbit x <<< n).getLsbD i = (x && decide (i = n)) := by
   intro x n i hi
   rw [BitVec.getLsbD_shiftLeft]
   cases x
   ·simp [cbit]
   ·by_cases h : i = n
    ·subst h; simp [cbit, hi]
    ·by_cases h2 : i < n
     ·simp [h2, h]
     ·have : (1#32).getLsbD (i - n) = false := by
       rw [BitVec.getLsbD_one]
       simp; omega
      simp [cbit, h, this]
  have hb0 : ∀ (x : Bool) (i : Nat), i < 32 → (cbit x).getLsbD i = (x && decide (i = 0)) := by
   intro x i hi
   have := hbit x 0 i hi
   simpa using this
  apply BitVec.eq_of_getLsbD_eq
  intro i hi
  simp only [BitVec.getLsbD_xor, hbit _ _ _ hi, hb0 _ _ hi]
  have hc : i = 0 ∨ i = 1 ∨ i = 2 ∨ i = 3 ∨ i = 4 ∨ i = 5 ∨ i = 6 ∨ i = 7 ∨ 8 ≤ i := by omega
  rcases hc with rfl | rfl | rfl | rfl | rfl | rfl | rfl | rfl | h
  all_goals first | (simp; done) | skip
  rw [hb i h]
  simp [show i ≠ 0 by omega, show i ≠ 1 by omega, show i ≠ 2 by omega, show i ≠ 3 by omega, show i ≠ 4 by omega, show i ≠ 5 by omega, show i ≠ 6 by omega, show i ≠ 7 by omega]
 have s1 : ∀ (x : Bool) (n : Nat), n < 30 → cf (cbit x <<< (n + 1)) = cbit x <<< n := by
  intro x n hn
  apply cf_shl
  intro i hi
  cases x
  ·simp [cbit]
  ·have : (1#32).getLsbD i = false := by
    rw [BitVec.getLsbD_one]
    simp; omega
   simpa [cbit] using this
 have s0 : ∀ (x : Bool), cbit x <<< 0 = cbit x := fun x => by simp
 have hx : ∀ (a p q : BitVec 32), cf (a ^^^ p ^^^ q) = cf (a ^^^ p) ^^^ cf q := fun a p q => cf_xor _ _
 conv => rhs; rw [e]
 simp only [cgs, cg_eq, cf4, ← BitVec.xor_assoc, hx, s1 _ 0 (by omega), s1 _ 1 (by omega), s1 _ 2 (by omega), s1 _ 3 (by omega), s1 _ 4 (by omega), s1 _ 5 (by omega), s1 _ 6 (by omega), s0]
def cval (v : BitVec 32) : Int := (v.toNat : Int)
theorem cval_lt (v : BitVec 32) : 0 ≤ cval v ∧ cval v < 4294967296 := by unfold cval; have := v.isLt; omega
theorem cval_back (v : BitVec 32) : IntKind.u32.wrap ((v.toNat : Nat) : Int) = cval v := by
 have := cval_lt v
 unfold cval at this ⊢
 simp only [IntKind.wrap, IntKind.bits, IntKind.signed]
 simp
 omega
theorem of_cval (v : BitVec 32) : BitVec.ofInt 32 (cval v) = v := by
 unfold cval
 rw [BitVec.ofInt_natCast, BitVec.ofNat_toNat, BitVec.setWidth_eq]
theorem and_cval (a b : BitVec 32) : Go.bits .and .u32 (cval a) (cval b) = cval (a &&& b) := by
 have h : Go.bits .and .u32 (cval a) (cval b) = IntKind.u32.wrap (((BitVec.ofInt 32 (cval a) &&& BitVec.ofInt 32 (cval b)).toNat : Nat) : Int) := rfl
 rw [h, of_cval, of_cval, cval_back]
theorem xor_cval (a b : BitVec 32) : Go.bits .xor .u32 (cval a) (cval b) = cval (a ^^^ b) := by
 have h : Go.bits .xor .u32 (cval a) (cval b) = IntKind.u32.wrap (((BitVec.ofInt 32 (cval a) ^^^ BitVec.ofInt 32 (cval b)).toNat : Nat) : Int) := rfl
 rw [h, of_cval, of_cval, cval_back]
theorem shr1_cval (v : BitVec 32) : cval v / (2 : Int) = cval (v >>> 1) := by
 unfold cval
 rw [BitVec.toNat_ushiftRight, Nat.shiftRight_eq_div_pow]
 omega
theorem shr4_cval (v : BitVec 32) : cval v / (16 : Int) = cval (v >>> 4) := by
 unfold cval
 rw [BitVec.toNat_ushiftRight, Nat.shiftRight_eq_div_pow]
 omega
def crcStep (x : BitVec 32) (c : Int) : BitVec 32 := cf4 (cf4 (x ^^^ BitVec.ofInt 32 c))
def crcL (l : List Int) : BitVec 32 := ~~~ (l.foldl crcStep (BitVec.allOnes 32))
theorem name_' {P : Program} {c : Code} {Q : Exit → Act → World → Prop} {a : Act} {W : World} (Φ : World → Prop) (h : Φ W) (k : ∀ W', Φ W' → c.wp P Q a W') : c.wp P Q a W := k W h
end Go.Proofs.YtpoehkacfmljcaaGreatDoor.H
