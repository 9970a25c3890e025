/- The law SaveValids: the two copies, the two calls. -/
import Derived.Test.YtmfbdmjgkcijcaaDoorZV
import Derived.Test.YtmfbdmjgkcijcaaDoorZRR
import Derived.Test.YtmfbdmjgkcijcaaDoorZMPayofflaw16CopyProgram
import Derived.Test.YtmfbdmjgkcijcaaDoorZMPayofflaw16CopyState
namespace Go.Proofs.YtmfbdmjgkcijcaaDoor.H
open Go.RowKit Go.Proofs.YtmfbdmjgkcijcaaDoorW.PrintWords Go.Proofs.YtmfbdmjgkcijcaaDoorW.PrintLast Go.Proofs.YtmfbdmjgkcijcaaDoorW.PrintMore
open Go.ChangeMaps (setBlock)
attribute [local go_sem] max2_int min2_int max_two min_two max_three min_three max_four min_four
set_option linter.unusedVariables false
set_option linter.unusedSimpArgs false
open Go.Proofs.YtmfbdmjgkcijcaaDoor.M
theorem copyP_l0 (names curs : List ByteArray) (pool : List Int) (hor cel slo sta : Int) (days : List S41) (hd : days.length < 4398046511104) (hc : ∀ s ∈ days, s.f1.length < 5864062014805) : ∀ (m i : Nat), i + m = days.length → payofflaw16_copyProgram.l0 (m + 1) (days.take i) i names curs pool hor cel slo sta days = some (names, curs, pool, hor, cel, slo, sta, days)
  | 0, i, hi => by
    simp only [payofflaw16_copyProgram.l0]
    rw [if_neg (by omega), List.take_of_length_le (by omega)]
  | m + 1, i, hi => by
    have hlt : i < days.length := by omega
    have hg : days[i]? = some (days.getD i z41) := by rw [List.getD_eq_getElem?_getD, List.getElem?_eq_getElem hlt]; rfl
    have hw : wrap64 ((i : Int) + 1) = ((i + 1 : Nat) : Int) := by unfold wrap64; omega
    have hcl := hc _ (List.mem_of_getElem? hg)
    unfold payofflaw16_copyProgram.l0
    rw [if_pos (show (i : Int) < (days.length : Int) by omega), if_pos (show (0 : Int) ≤ i by omega)]
    simp only [Option.bind_some, rd_T41, Int.toNat_natCast, List.length_nil, Nat.zero_add, List.nil_append]
    rw [if_pos hcl, if_pos (by rw [List.length_take]; omega), hw]
    have ht : days.take i ++ [⟨(days.getD i z41).f0, (days.getD i z41).f1⟩] = days.take (i + 1) := by rw [List.take_add_one, hg]; rfl
    rw [ht]
    exact copyP_l0 names curs pool hor cel slo sta days hd hc m (i + 1) (by omega)
theorem copyP_f (names curs : List ByteArray) (pool : List Int) (hor cel slo sta : Int) (days : List S41) (hn : names.length < 8796093022208) (hu : curs.length < 8796093022208) (hp : pool.length < 17592186044416) (hd : days.length < 4398046511104) (hc : ∀ s ∈ days, s.f1.length < 5864062014805) : payofflaw16_copyProgram.f (days.length + 1) names curs pool hor cel slo sta days = some (names, curs, pool, hor, cel, slo, sta, days) := by
  unfold payofflaw16_copyProgram.f
  simp only [Option.bind_some, List.length_nil, Nat.zero_add, List.nil_append]
  rw [if_pos hn, if_pos hu, if_pos hp]
  exact copyP_l0 names curs pool hor cel slo sta days hd hc days.length 0 (by omega)
theorem copyS_l0 (a0 a1 : Int) (l2 : List Int) (l3 : List (List S69)) (a4 a5 : Int) (hd : l3.length < 5864062014805) (hc : ∀ s ∈ l3, s.length < 8796093022208) : ∀ (m i : Nat), i + m = l3.length → payofflaw16_copyState.l0 (m + 1) (l3.take i) i a0 a1 l2 l3 a4 a5 = some (a0, a1, l2, l3, a4, a5)
  | 0, i, hi => by
    simp only [payofflaw16_copyState.l0]
    rw [if_neg (by omega), List.take_of_length_le (by omega)]
  | m + 1, i, hi => by
    have hlt : i < l3.length := by omega
    have hg : l3[i]? = some (l3.getD i []) := by rw [List.getD_eq_getElem?_getD, List.getElem?_eq_getElem hlt]; rfl
    have hw : wrap64 ((i : Int) + 1) = ((i + 1 : Nat) : Int) := by unfold wrap64; omega
    have hcl := hc _ (List.mem_of_getElem? hg)
    unfold payofflaw16_copyState.l0
    rw [if_pos (show (i : Int) < (l3.length : Int) by omega)]
    simp only [Option.bind_some, rd_L8, Int.toNat_natCast, List.length_nil, Nat.zero_add, List.nil_append]
    rw [if_pos (show (0 : Int) ≤ i by omega), if_pos hcl, if_pos (by rw [List.length_take]; omega), hw]
    have ht : l3.take i ++ [l3.getD i []] = l3.take (i + 1) := by rw [List.take_add_one, hg]; rfl
    rw [ht]
    exact copyS_l0 a0 a1 l2 l3 a4 a5 hd hc m (i + 1) (by omega)
theorem copyS_f (a0 a1 : Int) (l2 : List Int) (l3 : List (List S69)) (a4 a5 : Int) (h2 : l2.length < 17592186044416) (hd : l3.length < 5864062014805) (hc : ∀ s ∈ l3, s.length < 8796093022208) : payofflaw16_copyState.f (l3.length + 1) a0 a1 l2 l3 a4 a5 = some (a0, a1, l2, l3, a4, a5) := by
  unfold payofflaw16_copyState.f
  simp only [Option.bind_some, List.length_nil, Nat.zero_add, List.nil_append]
  rw [if_pos h2]
  exact copyS_l0 a0 a1 l2 l3 a4 a5 hd hc l3.length 0 (by omega)
def CopP (names curs : List ByteArray) (pool : List Int) (hor cel slo sta : Int) (days : List S41) (w : World) (e : Ending) (w' : World) : Prop :=
  ∃ E0 e0 E1 e1 E2 e2 E7 e7, e = .returned (.agg #[.slice E0 names.length e0, .slice E1 curs.length e1, .slice E2 pool.length e2, .int .i64 hor, .int .i64 cel, .int .i64 slo, .int .i64 sta, .slice E7 days.length e7]) ∧ Fr w w' [] ∧ (names.length ≤ e0 ∧ Kd.C Kd.string w' E0 names.length names) ∧ (curs.length ≤ e1 ∧ Kd.C Kd.string w' E1 curs.length curs) ∧ (pool.length ≤ e2 ∧ Kd.C (Kd.int .i64) w' E2 pool.length pool) ∧ days.length ≤ e7 ∧ Kd.C k41 w' E7 days.length days
def CopS (a0 a1 : Int) (l2 : List Int) (l3 : List (List S69)) (a4 a5 : Int) (w : World) (e : Ending) (w' : World) : Prop :=
  ∃ E2 e2 E3 e3, e = .returned (.agg #[.int .i64 a0, .int .i64 a1, .slice E2 l2.length e2, .slice E3 l3.length e3, .int .i64 a4, .int .i64 a5]) ∧ Fr w w' [] ∧ (l2.length ≤ e2 ∧ Kd.C (Kd.int .i64) w' E2 l2.length l2) ∧ l3.length ≤ e3 ∧ Kd.C (Kd.slice 69 k69) w' E3 l3.length l3
theorem copP_calls (A0 : Option Addr) (c0 : Nat) (names : List ByteArray) (A1 : Option Addr) (c1 : Nat) (curs : List ByteArray) (A2 : Option Addr) (c2 : Nat) (pool : List Int) (hor cel slo sta : Int) (A7 : Option Addr) (c7 : Nat) (days : List S41) (w : World) (hr0 : Kd.C Kd.string w A0 names.length names) (hc0 : names.length ≤ c0) (hr1 : Kd.C Kd.string w A1 curs.length curs) (hc1 : curs.length ≤ c1) (hr2 : Kd.C (Kd.int .i64) w A2 pool.length pool) (hc2 : pool.length ≤ c2) (hr7 : Kd.C k41 w A7 days.length days) (hc7 : days.length ≤ c7) (hn : names.length < 8796093022208) (hu : curs.length < 8796093022208) (hp : pool.length < 17592186044416) (hd : days.length < 4398046511104) (hc : ∀ s ∈ days, s.f1.length < 5864062014805) : Calls Tryd.prog 5 #[.agg #[.slice A0 names.length c0, .slice A1 curs.length c1, .slice A2 pool.length c2, .int .i64 hor, .int .i64 cel, .int .i64 slo, .int .i64 sta, .slice A7 days.length c7]] w (CopP names curs pool hor cel slo sta days w) := by
  refine (payofflaw16_copyProgram.calls _ A0 c0 names A1 c1 curs A2 c2 pool hor cel slo sta A7 c7 days _ _ _ _ _ _ _ _ w hr0 hc0 hr1 hc1 hr2 hc2 hr7 hc7 (copyP_f names curs pool hor cel slo sta days hn hu hp hd hc)).mono ?_
  rintro e w' ⟨v0, v1, v2, v7, rfl, h0, h1, h2, h7, hb⟩
  obtain ⟨E0, e0, rfl, g0, r0⟩ := Kd.R_reads h0
  obtain ⟨E1, e1, rfl, g1, r1⟩ := Kd.R_reads h1
  obtain ⟨E2, e2, rfl, g2, r2⟩ := Kd.R_reads h2
  obtain ⟨E7, e7, rfl, g7, r7⟩ := Kd.S_reads h7
  exact ⟨E0, e0, E1, e1, E2, e2, E7, e7, rfl, Fr.of_below hb _, ⟨g0, r0⟩, ⟨g1, r1⟩, ⟨g2, r2⟩, g7, r7⟩
theorem copS_calls (a0 a1 : Int) (B2 : Option Addr) (d2 : Nat) (l2 : List Int) (B3 : Option Addr) (d3 : Nat) (l3 : List (List S69)) (a4 a5 : Int) (w : World) (hs2 : Kd.C (Kd.int .i64) w B2 l2.length l2) (hd2 : l2.length ≤ d2) (hs3 : Kd.C (Kd.slice 69 k69) w B3 l3.length l3) (hd3 : l3.length ≤ d3) (h2 : l2.length < 17592186044416) (hd : l3.length < 5864062014805) (hc : ∀ s ∈ l3, s.length < 8796093022208) : Calls Tryd.prog 6 #[.agg #[.int .i64 a0, .int .i64 a1, .slice B2 l2.length d2, .slice B3 l3.length d3, .int .i64 a4, .int .i64 a5]] w (CopS a0 a1 l2 l3 a4 a5 w) := by
  refine (payofflaw16_copyState.calls _ a0 a1 B2 d2 l2 B3 d3 l3 a4 a5 _ _ _ _ _ _ w hs2 hd2 hs3 hd3 (copyS_f a0 a1 l2 l3 a4 a5 h2 hd hc)).mono ?_
  rintro e w' ⟨v2, v3, rfl, h2, h3, hb⟩
  obtain ⟨E2, e2, rfl, g2, r2⟩ := Kd.R_reads h2
  obtain ⟨E3, e3, rfl, g3, r3⟩ := Kd.S_reads h3
  exact ⟨E2, e2, E3, e3, rfl, Fr.of_below hb _, ⟨g2, r2⟩, g3, r3⟩
set_option maxHeartbeats 4000000 in
set_option maxRecDepth 100000 in
theorem saveValids_calls (A0 : Option Addr) (c0 : Nat) (names : List ByteArray) (A1 : Option Addr) (c1 : Nat) (curs : List ByteArray) (A2 : Option Addr) (c2 : Nat) (pool : List Int) (hor cel slo sta : Int) (A7 : Option Addr) (c7 : Nat) (days : List S41) (a0 a1 : Int) (B2 : Option Addr) (d2 : Nat) (l2 : List Int) (B3 : Option Addr) (d3 : Nat) (l3 : List (List S69)) (a4 a5 : Int) (w : World) (hr0 : Kd.C Kd.string w A0 names.length names) (hc0 : names.length ≤ c0) (hr1 : Kd.C Kd.string w A1 curs.length curs) (hc1 : curs.length ≤ c1) (hr2 : Kd.C (Kd.int .i64) w A2 pool.length pool) (hc2 : pool.length ≤ c2) (hr7 : Kd.C k41 w A7 days.length days) (hc7 : days.length ≤ c7)
    (hs2 : Kd.C (Kd.int .i64) w B2 l2.length l2) (hd2 : l2.length ≤ d2) (hs3 : Kd.C (Kd.slice 69 k69) w B3 l3.length l3) (hd3 : l3.length ≤ d3) (hn : names.length < 8796093022208) (hu : curs.length < 8796093022208) (hp : pool.length < 17592186044416) (hd : days.length < 4398046511104) (hc : ∀ s ∈ days, s.f1.length < 5864062014805) (h2 : l2.length < 17592186044416) (h3 : l3.length < 5864062014805) (h4 : ∀ s ∈ l3, s.length < 8796093022208) (hsz : ∀ s ∈ names, s.size ≤ 9223372036854775806) (G : TabW w) :
    Calls Tryd.prog 3 #[.agg #[.slice A0 names.length c0, .slice A1 curs.length c1, .slice A2 pool.length c2, .int .i64 hor, .int .i64 cel, .int .i64 slo, .int .i64 sta, .slice A7 days.length c7], .agg #[.int .i64 a0, .int .i64 a1, .slice B2 l2.length d2, .slice B3 l3.length d3, .int .i64 a4, .int .i64 a5]] w fun e w' => e = .returned (.bool true) ∧ Below w.heap.size w w' := by
  obtain ⟨V, hV⟩ : ∃ x, validP names curs pool hor cel slo sta days a0 a1 l2 l3 a4 a5 = x := ⟨_, rfl⟩
  have CP : Aside0 (∀ W, Fr w W [] → Calls Tryd.prog 5 #[.agg #[.slice A0 names.length c0, .slice A1 curs.length c1, .slice A2 pool.length c2, .int .i64 hor, .int .i64 cel, .int .i64 slo, .int .i64 sta, .slice A7 days.length c7]] W (CopP names curs pool hor cel slo sta days W)) := ⟨fun W h => copP_calls A0 c0 names A1 c1 curs A2 c2 pool hor cel slo sta A7 c7 days W (Kd.C_below hr0 h.below) hc0 (Kd.C_below hr1 h.below) hc1 (Kd.C_below hr2 h.below) hc2 (Kd.C_below hr7 h.below) hc7 hn hu hp hd hc⟩
  have CS : Aside0 (∀ W, Fr w W [] → Calls Tryd.prog 6 #[.agg #[.int .i64 a0, .int .i64 a1, .slice B2 l2.length d2, .slice B3 l3.length d3, .int .i64 a4, .int .i64 a5]] W (CopS a0 a1 l2 l3 a4 a5 W)) := ⟨fun W h => copS_calls a0 a1 B2 d2 l2 B3 d3 l3 a4 a5 W (Kd.C_below hs2 h.below) hd2 (Kd.C_below hs3 h.below) hd3 h2 h3 h4⟩
  have CR : Aside0 (∀ W, Fr w W [] → Calls Tryd.prog 7 #[.agg #[.slice A0 names.length c0, .slice A1 curs.length c1, .slice A2 pool.length c2, .int .i64 hor, .int .i64 cel, .int .i64 slo, .int .i64 sta, .slice A7 days.length c7], .agg #[.int .i64 a0, .int .i64 a1, .slice B2 l2.length d2, .slice B3 l3.length d3, .int .i64 a4, .int .i64 a5]] W (SvPost V W)) := ⟨fun W h => hV ▸ r16Valid_calls A0 c0 names A1 c1 curs A2 c2 pool hor cel slo sta A7 c7 days a0 a1 B2 d2 l2 B3 d3 l3 a4 a5 W (Kd.C_below hr0 h.below) hc0 (Kd.C_below hr1 h.below) hc1 (Kd.C_below hr2 h.below) (Kd.C_below hr7 h.below) hc7 (Kd.C_below hs2 h.below) hd2 (Kd.C_below hs3 h.below) hd3 (fun s hs => by have := hc s hs; omega) hsz (G.fr0 h)⟩
  have CV : Aside0 (∀ W, Fr w W [] → ∀ E0 e0 E1 e1 E2 e2 E7 e7 Y2 y2 Y3 y3, names.length ≤ e0 → Kd.C Kd.string W E0 names.length names → curs.length ≤ e1 → Kd.C Kd.string W E1 curs.length curs → pool.length ≤ e2 → Kd.C (Kd.int .i64) W E2 pool.length pool → days.length ≤ e7 → Kd.C k41 W E7 days.length days → l2.length ≤ y2 → Kd.C (Kd.int .i64) W Y2 l2.length l2 → l3.length ≤ y3 → Kd.C (Kd.slice 69 k69) W Y3 l3.length l3 → Calls Tryd.prog 4 #[.agg #[.slice E0 names.length e0, .slice E1 curs.length e1, .slice E2 pool.length e2, .int .i64 hor, .int .i64 cel, .int .i64 slo, .int .i64 sta, .slice E7 days.length e7], .agg #[.int .i64 a0, .int .i64 a1, .slice Y2 l2.length y2, .slice Y3 l3.length y3, .int .i64 a4, .int .i64 a5]] W (SvPost V W)) := ⟨fun W h E0 e0 E1 e1 E2 e2 E7 e7 Y2 y2 Y3 y3 q0 r0 q1 r1 q2 r2 q7 r7 t2 u2 t3 u3 => hV ▸ sValid_calls E0 e0 names E1 e1 curs E2 e2 pool hor cel slo sta E7 e7 days a0 a1 Y2 y2 l2 Y3 y3 l3 a4 a5 W r0 q0 r1 q1 r2 q2 r7 q7 u2 t2 u3 t3 (by omega) (fun s hs => by have := hc s hs; omega) (G.fr0 h)⟩
  clear hr0 hr1 hr2 hr7 hs2 hs3 hn hu hp hd hc h2 h3 h4 hsz G hV hc0 hc1 hc2 hc7 hd2 hd3
  have hup := Tryd.underlying26
  have hus := Tryd.underlying30
  go_enter Tryd.func3, Tryd.ntmps3
  go_upto_region 1 with fail
  refine name_ (fun V => Aside0 (Fr w V []) ∧ Aside0 (V.heap[w.heap.size]? = some (.cells #[.slice A0 names.length c0, .slice A1 curs.length c1, .slice A2 pool.length c2, .int .i64 hor, .int .i64 cel, .int .i64 slo, .int .i64 sta, .slice A7 days.length c7] 26 (0, 0))) ∧ Aside0 (V.heap[w.heap.size + 1]? = some (.cells #[.int .i64 a0, .int .i64 a1, .slice B2 l2.length d2, .slice B3 l3.length d3, .int .i64 a4, .int .i64 a5] 30 (0, 0)))) ⟨⟨FQ⟩, ⟨blk_alloc (blk_newN rfl) _⟩, ⟨blk_newN (by simp)⟩⟩ ?_
  rintro W0 ⟨HF0, HX0, HS0⟩
  have x00 := blk_cell HX0.out 0
  have x01 := blk_cell HX0.out 1
  have x02 := blk_cell HX0.out 2
  have x03 := blk_cell HX0.out 3
  have x04 := blk_cell HX0.out 4
  have x05 := blk_cell HX0.out 5
  have x06 := blk_cell HX0.out 6
  have x07 := blk_cell HX0.out 7
  have s00 := blk_cell HS0.out 0
  have s01 := blk_cell HS0.out 1
  have s02 := blk_cell HS0.out 2
  have s03 := blk_cell HS0.out 3
  have s04 := blk_cell HS0.out 4
  have s05 := blk_cell HS0.out 5
  go_region_held3 (fun w' => w'.cell? ⟨w.heap.size, 0, none⟩ = some (.slice A0 names.length c0) ∧ w'.cell? ⟨w.heap.size, 1, none⟩ = some (.slice A1 curs.length c1) ∧ w'.cell? ⟨w.heap.size, 2, none⟩ = some (.slice A2 pool.length c2) ∧ w'.cell? ⟨w.heap.size, 3, none⟩ = some (.int .i64 hor) ∧ w'.cell? ⟨w.heap.size, 4, none⟩ = some (.int .i64 cel) ∧ w'.cell? ⟨w.heap.size, 5, none⟩ = some (.int .i64 slo) ∧ w'.cell? ⟨w.heap.size, 6, none⟩ = some (.int .i64 sta) ∧ w'.cell? ⟨w.heap.size, 7, none⟩ = some (.slice A7 days.length c7) ∧ w'.cell? ⟨w.heap.size + 1, 0, none⟩ = some (.int .i64 a0) ∧ w'.cell? ⟨w.heap.size + 1, 1, none⟩ = some (.int .i64 a1) ∧ w'.cell? ⟨w.heap.size + 1, 2, none⟩ = some (.slice B2 l2.length d2) ∧ w'.cell? ⟨w.heap.size + 1, 3, none⟩ = some (.slice B3 l3.length d3) ∧ w'.cell? ⟨w.heap.size + 1, 4, none⟩ = some (.int .i64 a4) ∧ w'.cell? ⟨w.heap.size + 1, 5, none⟩ = some (.int .i64 a5)) (first | exact ⟨x00, x01, x02, x03, x04, x05, x06, x07, s00, s01, s02, s03, s04, s05⟩ | go_keep) (first | (go_simp; go_at_call 5; (with_reducible refine (CP.out _ ?_).mono ?_); (next => exact by (with_reducible (repeat (first | exact Fr.refl _ _ | refine Fr.drew ?_ | refine Fr.drewN ?_ _ | refine Fr.alloc ?_ _ | refine Fr.setCell ?_ _ _ ?_))); exact HF0.out); rintro e W1 ⟨E0, e0, E1, e1, E2, e2, E7, e7, rfl, hF1, ⟨q0, r0⟩, ⟨q1, r1⟩, ⟨q2, r2⟩, q7, r7⟩; have HF1 : Aside0 (Fr w W1 []) := ⟨Fr.trans (M := []) (by (with_reducible (repeat (first | exact Fr.refl _ _ | refine Fr.drew ?_ | refine Fr.drewN ?_ _ | refine Fr.alloc ?_ _ | refine Fr.setCell ?_ _ _ ?_))); exact HF0.out) hF1 (by simp)⟩; have HX1 := Aside0.mk (hF1.blk (g := w.heap.size) (by (with_reducible (repeat (first | apply blk_drew | apply blk_alloc | apply blk_set))); first | exact HX0.out | exact blk_drewN HX0.out _) (by simp)); have HS1 := Aside0.mk (hF1.blk (g := w.heap.size + 1) (by (with_reducible (repeat (first | apply blk_drew | apply blk_alloc | apply blk_set))); first | exact HS0.out | exact blk_drewN HS0.out _) (by simp)); have R0 := Aside0.mk r0; have R1 := Aside0.mk r1; have R2 := Aside0.mk r2; have R7 := Aside0.mk r7; clear hF1 r0 r1 r2 r7; have x10 := blk_cell HX1.out 0; have x11 := blk_cell HX1.out 1; have x12 := blk_cell HX1.out 2; have x13 := blk_cell HX1.out 3; have x14 := blk_cell HX1.out 4; have x15 := blk_cell HX1.out 5; have x16 := blk_cell HX1.out 6; have x17 := blk_cell HX1.out 7; have s10 := blk_cell HS1.out 0; have s11 := blk_cell HS1.out 1; have s12 := blk_cell HS1.out 2; have s13 := blk_cell HS1.out 3; have s14 := blk_cell HS1.out 4; have s15 := blk_cell HS1.out 5) | (go_simp; go_at_call 6; (with_reducible refine (CS.out _ ?_).mono ?_); (next => exact by (with_reducible (repeat (first | exact Fr.refl _ _ | refine Fr.drew ?_ | refine Fr.drewN ?_ _ | refine Fr.alloc ?_ _ | refine Fr.setCell ?_ _ _ ?_))); exact HF1.out); rintro e W2 ⟨Y2, y2, Y3, y3, rfl, hF2, ⟨t2, u2⟩, t3, u3⟩; have FW2 : Aside0 (Fr W1 W2 []) := ⟨Fr.trans (M := []) FQ hF2 (by simp)⟩; have HF2 : Aside0 (Fr w W2 []) := ⟨Fr.trans (M := []) HF1.out FW2.out (by simp)⟩; have HX2 := Aside0.mk (FW2.out.blk (g := w.heap.size) HX1.out (by simp)); have HS2 := Aside0.mk (FW2.out.blk (g := w.heap.size + 1) HS1.out (by simp)); have U2 := Aside0.mk u2; have U3 := Aside0.mk u3; clear hF2 u2 u3; have x20 := blk_cell HX2.out 0; have x21 := blk_cell HX2.out 1; have x22 := blk_cell HX2.out 2; have x23 := blk_cell HX2.out 3; have x24 := blk_cell HX2.out 4; have x25 := blk_cell HX2.out 5; have x26 := blk_cell HX2.out 6; have x27 := blk_cell HX2.out 7; have s20 := blk_cell HS2.out 0; have s21 := blk_cell HS2.out 1; have s22 := blk_cell HS2.out 2; have s23 := blk_cell HS2.out 3; have s24 := blk_cell HS2.out 4; have s25 := blk_cell HS2.out 5) | (go_simp; go_at_call 4; (refine (CV.out W2 HF2.out E0 e0 E1 e1 E2 e2 E7 e7 Y2 y2 Y3 y3 q0 (Kd.C_below R0.out FW2.out.below) q1 (Kd.C_below R1.out FW2.out.below) q2 (Kd.C_below R2.out FW2.out.below) q7 (Kd.C_below R7.out FW2.out.below) t2 U2.out t3 U3.out).mono ?_); rintro e W3 ⟨rfl, hF3⟩; have HF3 : Aside0 (Fr w W3 []) := ⟨Fr.trans (M := []) HF2.out hF3 (by simp)⟩; have HX3 := Aside0.mk (hF3.blk (g := w.heap.size) HX2.out (by simp)); have HS3 := Aside0.mk (hF3.blk (g := w.heap.size + 1) HS2.out (by simp)); clear hF3; have x30 := blk_cell HX3.out 0; have x31 := blk_cell HX3.out 1; have x32 := blk_cell HX3.out 2; have x33 := blk_cell HX3.out 3; have x34 := blk_cell HX3.out 4; have x35 := blk_cell HX3.out 5; have x36 := blk_cell HX3.out 6; have x37 := blk_cell HX3.out 7; have s30 := blk_cell HS3.out 0; have s31 := blk_cell HS3.out 1; have s32 := blk_cell HS3.out 2; have s33 := blk_cell HS3.out 3; have s34 := blk_cell HS3.out 4; have s35 := blk_cell HS3.out 5) | (go_simp; go_at_call 7; (with_reducible refine (CR.out _ ?_).mono ?_); (next => exact by (with_reducible (repeat (first | exact Fr.refl _ _ | refine Fr.drew ?_ | refine Fr.drewN ?_ _ | refine Fr.alloc ?_ _ | refine Fr.setCell ?_ _ _ ?_))); exact HF3.out); rintro e W4 ⟨rfl, hF4⟩; have HF4 : Aside0 (Fr w W4 []) := ⟨Fr.trans (M := []) (by (with_reducible (repeat (first | exact Fr.refl _ _ | refine Fr.drew ?_ | refine Fr.drewN ?_ _ | refine Fr.alloc ?_ _ | refine Fr.setCell ?_ _ _ ?_))); exact HF3.out) hF4 (by simp)⟩; have HX4 := Aside0.mk (hF4.blk (g := w.heap.size) (by (with_reducible (repeat (first | apply blk_drew | apply blk_alloc | apply blk_set))); first | exact HX3.out | exact blk_drewN HX3.out _) (by simp)); have HS4 := Aside0.mk (hF4.blk (g := w.heap.size + 1) (by (with_reducible (repeat (first | apply blk_drew | apply blk_alloc | apply blk_set))); first | exact HS3.out | exact blk_drewN HS3.out _) (by simp)); clear hF4; have x40 := blk_cell HX4.out 0; have x41 := blk_cell HX4.out 1; have x42 := blk_cell HX4.out 2; have x43 := blk_cell HX4.out 3; have x44 := blk_cell HX4.out 4; have x45 := blk_cell HX4.out 5; have x46 := blk_cell HX4.out 6; have x47 := blk_cell HX4.out 7; have s40 := blk_cell HS4.out 0; have s41 := blk_cell HS4.out 1; have s42 := blk_cell HS4.out 2; have s43 := blk_cell HS4.out 3; have s44 := blk_cell HS4.out 4; have s45 := blk_cell HS4.out 5))
  go_wp2
  go_ret
  exact ⟨by simp, (show Fr w _ [] by (with_reducible (repeat (first | exact Fr.refl _ _ | refine Fr.drew ?_ | refine Fr.drewN ?_ _ | refine Fr.alloc ?_ _ | refine Fr.setCell ?_ _ _ ?_))); exact HF4.out).below⟩
end Go.Proofs.YtmfbdmjgkcijcaaDoor.H
