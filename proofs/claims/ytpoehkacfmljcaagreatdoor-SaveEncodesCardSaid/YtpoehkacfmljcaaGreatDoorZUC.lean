/- The law's two copies, by hand. -/
import Derived.Test.YtpoehkacfmljcaaGreatDoorZV
import Derived.Test.YtpoehkacfmljcaaGreatDoorZWH
import Derived.Test.YtpoehkacfmljcaaGreatDoorZUT
import Derived.Test.YtpoehkacfmljcaaGreatDoorZKB
import Derived.Test.YtpoehkacfmljcaaGreatDoorZRR
set_option maxHeartbeats 4000000
set_option maxRecDepth 100000
namespace Go.Proofs.YtpoehkacfmljcaaGreatDoor.H
open Go.RowKit Go.Proofs.YtpoehkacfmljcaaGreatDoorW.PrintWords Go.Proofs.YtpoehkacfmljcaaGreatDoorW.PrintLast Go.Proofs.YtpoehkacfmljcaaGreatDoorW.PrintMore
open Go.ChangeMaps (setBlock)
attribute [local go_sem] max2_int min2_int max_two min_two max_three min_three max_four min_four
set_option linter.unusedVariables false
set_option linter.unusedSimpArgs false
open Go.Proofs.YtpoehkacfmljcaaGreatDoor.M
def CopP (names curs : List ByteArray) (pool : List Int) (hor cel slo sta : Int) (days : List S54) (w : World) (e : Ending) (w' : World) : Prop :=
 ∃ E0 e0 E1 e1 E2 e2 E7 e7, e = .returned (.agg #[.slice E0 names.length e0, .slice E1 curs.length e1, .slice E2 pool.length e2, .int .i64 hor, .int .i64 cel, .int .i64 slo, .int .i64 sta, .slice E7 days.length e7]) ∧ Fr w w' [] ∧ (names.length ≤ e0 ∧ Kd.C Kd.string w' E0 names.length names) ∧ (curs.length ≤ e1 ∧ Kd.C Kd.string w' E1 curs.length curs) ∧ (pool.length ≤ e2 ∧ Kd.C (Kd.int .i64) w' E2 pool.length pool) ∧ days.length ≤ e7 ∧ Kd.C k54 w' E7 days.length days
def CopS (a0 a1 : Int) (l2 : List Int) (l3 : List (List S45)) (a4 a5 : Int) (w : World) (e : Ending) (w' : World) : Prop :=
 ∃ E2 e2 E3 e3, e = .returned (.agg #[.int .i64 a0, .int .i64 a1, .slice E2 l2.length e2, .slice E3 l3.length e3, .int .i64 a4, .int .i64 a5]) ∧ Fr w w' [] ∧ (l2.length ≤ e2 ∧ Kd.C (Kd.int .i64) w' E2 l2.length l2) ∧ l3.length ≤ e3 ∧ Kd.C (Kd.slice 45 k45) w' E3 l3.length l3
theorem R_fr2 {α : Type} {d : Kd α} {e base s r t : Nat} {w w' : World} {v : Value} {xs : List α} {c1 c2 : Array Value} (h : d.R e w base (fun _ => True) v xs) (hF : Fr w w' [s, r]) (hs : w.heap[s]? = some (.cells c1 t (0, 0))) (hr : w.heap[r]? = some (.cells c2 t (0, 0))) (ht : ∀ q, q ∈ e :: d.E → q ≠ t) : d.R e w' base (fun _ => True) v xs :=
 Kd.R_mono (Kd.R_step (Kd.R_types (Kd.R_types h hs ht) hr ht) (fun k hk hk2 => hF.block k hk2 (by simp [hk.1.2, hk.2]))) (fun _ _ => trivial)
theorem put6 {w : World} {g t : Nat} {x0 x1 x2 x3 x4 x5 : Value} (h : w.heap[g]? = some (.cells #[x0, x1, x2, x3, x4, x5] t (0, 0))) (v0 v1 v2 v3 v4 v5 : Value) : ((((((w.setCell ⟨g, 0, none⟩ v0).setCell ⟨g, 1, none⟩ v1).setCell ⟨g, 2, none⟩ v2).setCell ⟨g, 3, none⟩ v3).setCell ⟨g, 4, none⟩ v4).setCell ⟨g, 5, none⟩ v5).heap[g]? = some (.cells #[v0, v1, v2, v3, v4, v5] t (0, 0)) :=
 blk_put (blk_put (blk_put (blk_put (blk_put (blk_put h 0 v0 rfl) 1 v1 rfl) 2 v2 rfl) 3 v3 rfl) 4 v4 rfl) 5 v5 rfl
theorem put8 {w : World} {g t : Nat} {x0 x1 x2 x3 x4 x5 x6 x7 : Value} (h : w.heap[g]? = some (.cells #[x0, x1, x2, x3, x4, x5, x6, x7] t (0, 0))) (v0 v1 v2 v3 v4 v5 v6 v7 : Value) : ((((((((w.setCell ⟨g, 0, none⟩ v0).setCell ⟨g, 1, none⟩ v1).setCell ⟨g, 2, none⟩ v2).setCell ⟨g, 3, none⟩ v3).setCell ⟨g, 4, none⟩ v4).setCell ⟨g, 5, none⟩ v5).setCell ⟨g, 6, none⟩ v6).setCell ⟨g, 7, none⟩ v7).heap[g]? = some (.cells #[v0, v1, v2, v3, v4, v5, v6, v7] t (0, 0)) :=
 blk_put (cs' := #[v0, v1, v2, v3, v4, v5, v6, v7]) (blk_put (cs' := #[v0, v1, v2, v3, v4, v5, v6, x7]) (blk_put (cs' := #[v0, v1, v2, v3, v4, v5, x6, x7]) (blk_put (cs' := #[v0, v1, v2, v3, v4, x5, x6, x7]) (blk_put (cs' := #[v0, v1, v2, v3, x4, x5, x6, x7]) (blk_put (cs' := #[v0, v1, v2, x3, x4, x5, x6, x7]) (blk_put (cs' := #[v0, v1, x2, x3, x4, x5, x6, x7]) (blk_put (cs' := #[v0, x1, x2, x3, x4, x5, x6, x7]) h 0 v0 rfl) 1 v1 rfl) 2 v2 rfl) 3 v3 rfl) 4 v4 rfl) 5 v5 rfl) 6 v6 rfl) 7 v7 rfl
theorem frv {w w' : World} {p : Addr} {v : Value} (h : w.cell? p = some v) (hf : Fr w w' []) : w'.cell? p = some v := by
 rw [World.cell?_of_block (hf.block p.block (World.block_lt_of_cell? w p h) (by simp))]
 exact h
theorem take_one {α : Type} (z : α) (l : List α) (i : Nat) (hi : i < l.length) : l.take (i + 1) = l.take i ++ [l.getD i z] := by
 rw [List.take_add_one, List.getElem?_eq_getElem hi, List.getD_eq_getElem?_getD, List.getElem?_eq_getElem hi]
 rfl
theorem copS_calls (a0 a1 : Int) (B2 : Option Addr) (d2 : Nat) (l2 : List Int) (B3 : Option Addr) (d3 : Nat) (l3 : List (List S45)) (a4 a5 : Int) (w : World) (hs2 : Kd.C (Kd.int .i64) w B2 l2.length l2) (hd2 : l2.length ≤ d2) (hs3 : Kd.C (Kd.slice 45 k45) w B3 l3.length l3) (hd3 : l3.length ≤ d3) (h2 : l2.length < 17592186044416) (hd : l3.length < 5864062014805) (hc : ∀ s ∈ l3, s.length < 8796093022208) : Calls Tryz.prog 4 #[.agg #[.int .i64 a0, .int .i64 a1, .slice B2 l2.length d2, .slice B3 l3.length d3, .int .i64 a4, .int .i64 a5]] w (CopS a0 a1 l2 l3 a4 a5 w) := by
 have H2 := AsM hs2
 have H3 := AsM hs3
 have HC := AsM hc
 have hut := Tryz.underlying30
 clear hs2 hs3 hc
 go_enter Tryz.func4, Tryz.ntmps4
 go_upto_region 1 with fail
 refine name_' (fun V => Aside0 (Fr w V []) ∧ Aside0 (V.heap[w.heap.size]? = some (.cells #[.int .i64 a0, .int .i64 a1, .slice B2 l2.length d2, .slice B3 l3.length d3, .int .i64 a4, .int .i64 a5] 30 (0, 0))) ∧ Aside0 (V.heap[w.heap.size + 1]? = some (.cells #[.int .i64 0, .int .i64 0, .slice none 0 0, .slice none 0 0, .int .i64 0, .int .i64 0] 30 (0, 0)))) ⟨⟨FQ⟩, ⟨blk_alloc (blk_newN rfl) _⟩, ⟨blk_newN (by simp)⟩⟩ ?_
 rintro W0 ⟨HF0, HX0, HZ0⟩
 obtain ⟨rb, hrb⟩ : ∃ rb, w.heap.size + 1 = rb := ⟨_, rfl⟩
 obtain ⟨sb, hsb⟩ : ∃ sb, w.heap.size = sb := ⟨_, rfl⟩
 have hsr : sb < rb := by omega
 have hws : w.heap.size ≤ sb := by omega
 rw [hrb] at HZ0 ⊢
 rw [hsb] at HX0 ⊢
 have x2 := blk_cell HX0.out 2
 have z2 := blk_frozen HX0.out 2
 have lx := blk_lt HX0.out
 go_upto_region 2 with (first | (at_builtin; (refine Kd.R_append_rows (Kd.int .i64) (w0 := W0) W0.heap.size rfl (.tmp 5) (.tmp 7) 23 3 (.int .i64 0) 8 rfl Tryz.underlying23 info3 rfl (by decide) (by decide) _ [] l2 B2 l2.length d2 (fun _ => True) (fun _ => False) rfl rfl (empty_R _ _ W0) (Kd.C_alloc (Kd.C_below H2.out HF0.out.below) _) (fun _ _ h => h) (fun _ h => h.elim) (fun _ _ => trivial) (below_alloc (Below.refl _ _) _) (by simp) (by simp; omega) ?_); intro v1 w1 ho hb hg hat; have HF1 := AsM (Fr.grown (L := []) (Fr.alloc (Fr.refl W0 []) _) hg (fun k hk => .inr (by injection hk with hk; simp at hk; omega))); rw [List.nil_append] at ho; have HO1 := AsM ho; obtain ⟨E2, e2, rfl, q2, _⟩ := Kd.R_reads ho; have HX1 := AsM (HF1.out.bl HX0.out); have HZ1 := AsM (HF1.out.bl HZ0.out); have y2 := blk_cell HX1.out 2; have yz2 := blk_frozen HX1.out 2; have ly := blk_lt HX1.out; clear ho hb hg hat))
 obtain ⟨V1, hV1⟩ : ∃ V1, w1.setCell ⟨sb, 2, none⟩ (.slice E2 l2.length e2) = V1 := ⟨_, rfl⟩
 have hfs : Fr w1 V1 [sb, rb] := hV1 ▸ (Fr.refl w1 _).setCell _ _ (.inl (by simp))
 have hFV : Fr w V1 [] := hV1 ▸ (HF0.out.tr HF1.out).setCell _ _ (.inr hws)
 have HXV : Aside0 (V1.heap[sb]? = some (.cells #[.int .i64 a0, .int .i64 a1, .slice E2 l2.length e2, .slice B3 l3.length d3, .int .i64 a4, .int .i64 a5] 30 (0, 0))) := ⟨hV1 ▸ blk_put HX1.out 2 _ rfl⟩
 have HZV : Aside0 (V1.heap[rb]? = some (.cells #[.int .i64 0, .int .i64 0, .slice none 0 0, .slice none 0 0, .int .i64 0, .int .i64 0] 30 (0, 0))) := ⟨hV1 ▸ ((Fr.refl w1 [sb]).setCell ⟨sb, 2, none⟩ _ (.inl (by simp))).blk HZ1.out (by simp; omega)⟩
 have HOV := AsM (R_fr2 HO1.out hfs HX1.out HZ1.out (by decide))
 have HFV := AsM hFV
 rw [hV1]
 clear hV1 hfs hFV HX0 HX1 HZ0 HZ1 HO1 HF0 HF1 x2 z2 lx y2 yz2 ly
 go_wp2
 go_loopg [3, 4] l3.length (fun kq s3 s4 wr => ∃ i : Nat, s4 = .int .i64 i ∧ i ≤ l3.length ∧ Aside0 (l3.length - i ≤ kq) ∧ Aside0 (Fr V1 wr []) ∧ Aside0 (Kd.R (Kd.slice 45 k45) 39 wr V1.heap.size (fun _ => True) s3 (l3.take i)))
 case atStart => exact ⟨0, rfl, Nat.zero_le _, ⟨Nat.le_refl _⟩, ⟨Fr.refl _ _⟩, ⟨Kd.R_nil _ _ _ _ _⟩⟩
 case round =>
  obtain ⟨i, rfl, hi, HM, HF, HR⟩ := hrel
  have HX := AsM (HF.out.bl HXV.out)
  have x3 := blk_cell HX.out 3
  have lx := blk_lt HX.out
  by_cases hil : i < l3.length
  ·have n3 : decide (i < l3.length) = true := by simpa using hil
   have p0 : (0 : Int) ≤ (i : Int) := by omega
   have p1 : (i : Int) < l3.length := by omega
   obtain ⟨ad, R0, cR, rfl, g9, hR⟩ := rw_at H3.out i hil
   have HSN := AsM (take_one [] l3 i hil)
   obtain ⟨r, hx⟩ : ∃ x, l3.getD i [] = x := ⟨_, rfl⟩
   have hmr := HC.out r (by rw [← hx, List.getD_eq_getElem?_getD, List.getElem?_eq_getElem hil]; exact List.getElem_mem _)
   rw [hx] at g9 hR HSN
   have hfw := HFV.out.tr HF.out
   have q0 := frv g9 (hfw.alloc (.cells #[] 45))
   have HRR := AsM (Kd.C_below hR hfw.below)
   have htl : (l3.take i).length ≤ i := by rw [List.length_take]; omega
   clear hx g9 hR hfw
   go_wp2_with (first
    | (at_builtin; (refine Kd.R_append_rows k45 (w0 := wr) wr.heap.size rfl (.tmp 18) (.tmp 23) 39 45 (.agg #[.bool false, .int .i64 0]) 16 rfl Tryz.underlying39 info45 rfl (by decide) (by decide) _ [] r R0 r.length cR (fun _ => True) (fun _ => False) rfl rfl (empty_R _ _ wr) (Kd.C_alloc HRR.out _) (fun _ _ h => h) (fun _ h => h.elim) (fun _ _ => trivial) (below_alloc (Below.refl _ _) _) (by simp) (by simp; omega) ?_); intro v1 w1 ho hb hg hat; have HF1 := AsM (Fr.grown (L := []) (Fr.alloc (Fr.refl wr []) _) hg (fun k hk => .inr (by injection hk with hk; simp at hk; omega))); rw [List.nil_append] at ho; obtain ⟨E3, e3, rfl, _, _⟩ := Kd.R_reads ho; have HP : Aside0 ((Kd.slice 45 k45).M w1 V1.heap.size (fun k => some k ≠ u3.ownBlock) r [.slice E3 r.length e3]) := ⟨⟨_, rfl, Kd.R_lower (Kd.R_mono (Kd.R_new' ho (Kd.R_lt HR.out)) (fun k hk => hk.2)) HF.out.size⟩⟩; clear ho hb hg hat)
    | (at_builtin; (refine Kd.R_append (Kd.slice 45 k45) (w0 := V1) (W := w1) V1.heap.size rfl (.tmp 17) (.tmp 25) 27 39 (.slice none 0 0) 24 rfl Tryz.underlying27 info39 rfl (by decide) (by decide) u3 (l3.take i) r [.slice E3 r.length e3] (fun _ => True) (fun k => some k ≠ u3.ownBlock) rfl rfl HP.out (fun q h => ⟨trivial, h⟩) (fun _ _ => trivial) (Kd.R_below HR.out HF1.out.below) (HF.out.tr HF1.out).below (HF.out.tr HF1.out).size (by omega) ?_); intro v4 w4 hR4 hb4 hg4 hat4; have HR4 := AsM hR4; have HF4 : Aside0 (Fr V1 w4 []) := ⟨fr_grown2 (HF.out.tr HF1.out) hg4 (Kd.R_base HR.out)⟩; clear hR4 hb4 hg4 hat4))
   go_roundg (l3.length - (i + 1))
   case measure => have := HM.out; omega
   case rel => exact ⟨i + 1, by go_num, by omega, ⟨Nat.le_refl _⟩, HF4, ⟨by rw [HSN.out]; exact HR4.out⟩⟩
  ·obtain rfl : i = l3.length := by omega
   have n3 : decide (l3.length < l3.length) = false := by simp
   have hR := HR.out
   rw [List.take_of_length_le (Nat.le_refl _)] at hR
   obtain ⟨E3, e3, rfl, q3, _⟩ := Kd.R_reads hR
   have HR3 := AsM hR
   have y3 := blk_cell HX.out 3
   have yz3 := blk_frozen HX.out 3
   clear hR HR
   go_upto_region 8 with fail
   refine name_' (fun V => Aside0 (Fr wr V [sb, rb]) ∧ Aside0 (Fr w V []) ∧ Aside0 (V.heap[sb]? = some (.cells #[.int .i64 a0, .int .i64 a1, .slice E2 l2.length e2, .slice E3 l3.length e3, .int .i64 a4, .int .i64 a5] 30 (0, 0))) ∧ Aside0 (V.heap[rb]? = some (.cells #[.int .i64 0, .int .i64 0, .slice none 0 0, .slice none 0 0, .int .i64 0, .int .i64 0] 30 (0, 0)))) ⟨⟨FQ⟩, ⟨(HFV.out.tr HF.out).setCell _ _ (.inr hws)⟩, ⟨blk_put HX.out 3 _ rfl⟩, ⟨((Fr.refl wr [sb]).setCell ⟨sb, 3, none⟩ _ (.inl (by simp))).blk (HF.out.bl HZV.out) (by simp; omega)⟩⟩ ?_
   rintro V3 ⟨HA, HB, HXX, HZZ⟩
   have HO3 := AsM (R_fr2 (Kd.R_below HOV.out HF.out.below) HA.out HX.out (HF.out.bl HZV.out) (by decide))
   have HR4 := AsM (R_fr2 HR3.out HA.out HX.out (HF.out.bl HZV.out) (by decide))
   clear HX x3 lx y3 yz3 HR3 HOV HXV HZV HF HFV HA
   obtain ⟨x0, x1, x2, x3, x4, x5⟩ := cc6 HXX.out
   obtain ⟨z0, z1, z2, z3, z4, z5⟩ := cc6 HZZ.out
   have hz := fun i => blk_frozen HZZ.out i
   have lx := blk_lt HXX.out
   have lz := blk_lt HZZ.out
   go_wp2
   refine bodyPost_ret (results_cell_row rfl _ _ rb 30 _ (0, 0) _ rfl (put6 HZZ.out _ _ _ _ _ _) hut rfl (by kernel_rfl)) rfl ?_
   have hfe : Fr V3 ((((((V3.setCell ⟨rb, 0, none⟩ (.int .i64 a0)).setCell ⟨rb, 1, none⟩ (.int .i64 a1)).setCell ⟨rb, 2, none⟩ (.slice E2 l2.length e2)).setCell ⟨rb, 3, none⟩ (.slice E3 l3.length e3)).setCell ⟨rb, 4, none⟩ (.int .i64 a4)).setCell ⟨rb, 5, none⟩ (.int .i64 a5)) [sb, rb] := FQ
   exact ⟨E2, e2, E3, e3, rfl, HB.out.trans hfe (by simp; omega), ⟨q2, (Kd.R_reads' (R_fr2 HO3.out hfe HXX.out HZZ.out (by decide))).2.2⟩, q3, (Kd.R_reads' (R_fr2 HR4.out hfe HXX.out HZZ.out (by decide))).2.2⟩
theorem copP_calls (A0 : Option Addr) (c0 : Nat) (names : List ByteArray) (A1 : Option Addr) (c1 : Nat) (curs : List ByteArray) (A2 : Option Addr) (c2 : Nat) (pool : List Int) (hor cel slo sta : Int) (A7 : Option Addr) (c7 : Nat) (days : List S54) (w : World) (hr0 : Kd.C Kd.string w A0 names.length names) (hc0 : names.length ≤ c0) (hr1 : Kd.C Kd.string w A1 curs.length curs) (hc1 : curs.length ≤ c1) (hr2 : Kd.C (Kd.int .i64) w A2 pool.length pool) (hc2 : pool.length ≤ c2) (hr7 : Kd.C k54 w A7 days.length days) (hc7 : days.length ≤ c7) (hn : names.length < 8796093022208) (hu : curs.length < 8796093022208) (hp : pool.length < 17592186044416) (hd : days.length < 4398046511104) (hc : ∀ s ∈ days, s.f1.length < 5864062014805) : Calls Tryz.prog 6 #[.agg #[.slice A0 names.length c0, .slice A1 curs.length c1, .slice A2 pool.length c2, .int .i64 hor, .int .i64 cel, .int .i64 slo, .int .i64 sta, .slice A7 days.length c7]] w (CopP names curs pool hor cel slo sta days w) := by
 have H0 := AsM hr0
 have H1 := AsM hr1
 have H2 := AsM hr2
 have H7 := AsM hr7
 have HC := AsM hc
 have hut := Tryz.underlying26
 have hus := Tryz.underlying54
 clear hr0 hr1 hr2 hr7 hc
 go_enter Tryz.func6, Tryz.ntmps6
 go_upto_region 1 with fail
 refine name_' (fun V => Aside0 (Fr w V []) ∧ Aside0 (V.heap[w.heap.size]? = some (.cells #[.slice A0 names.length c0, .slice A1 curs.length c1, .slice A2 pool.length c2, .int .i64 hor, .int .i64 cel, .int .i64 slo, .int .i64 sta, .slice A7 days.length c7] 26 (0, 0))) ∧ Aside0 (V.heap[w.heap.size + 1]? = some (.cells #[.slice none 0 0, .slice none 0 0, .slice none 0 0, .int .i64 0, .int .i64 0, .int .i64 0, .int .i64 0, .slice none 0 0] 26 (0, 0)))) ⟨⟨FQ⟩, ⟨blk_alloc (blk_newN rfl) _⟩, ⟨blk_newN (by simp)⟩⟩ ?_
 rintro V0 ⟨HF, HX, HZ⟩
 obtain ⟨rb, hrb⟩ : ∃ rb, w.heap.size + 1 = rb := ⟨_, rfl⟩
 obtain ⟨sb, hsb⟩ : ∃ sb, w.heap.size = sb := ⟨_, rfl⟩
 have hsr : sb < rb := by omega
 have hws : w.heap.size ≤ sb := by omega
 rw [hrb] at HZ ⊢
 rw [hsb] at HX ⊢
 have x0 := blk_cell HX.out 0
 have z0 := blk_frozen HX.out 0
 have lx := blk_lt HX.out
 go_upto_region 2 with (first | (at_builtin; (refine Kd.R_append_rows Kd.string (w0 := V0) V0.heap.size rfl (.tmp 5) (.tmp 7) 22 9 (.string ⟨#[]⟩) 16 rfl Tryz.underlying22 info9 rfl (by decide) (by decide) _ [] names A0 names.length c0 (fun _ => True) (fun _ => False) rfl rfl (empty_R _ _ V0) (Kd.C_alloc (Kd.C_below H0.out HF.out.below) _) (fun _ _ h => h) (fun _ h => h.elim) (fun _ _ => trivial) (below_alloc (Below.refl _ _) _) (by simp) (by simp; omega) ?_); intro v1 w1 ho hb hg hat; have HF1 := AsM (Fr.grown (L := []) (Fr.alloc (Fr.refl V0 []) _) hg (fun k hk => .inr (by injection hk with hk; simp at hk; omega))); rw [List.nil_append] at ho; have HO1 := AsM ho; obtain ⟨E0, e0, rfl, q0, _⟩ := Kd.R_reads ho; have HX1 := AsM (HF1.out.bl HX.out); have HZ1 := AsM (HF1.out.bl HZ.out); have y0 := blk_cell HX1.out 0; have yz0 := blk_frozen HX1.out 0; have ly := blk_lt HX1.out; clear ho hb hg hat))
 have hfs : Fr w1 (w1.setCell ⟨sb, 0, none⟩ (.slice E0 names.length e0)) [sb, rb] := (Fr.refl w1 _).setCell _ _ (.inl (by simp))
 refine name_' (fun V => Aside0 (Fr w V []) ∧ Aside0 (V.heap[sb]? = some (.cells #[.slice E0 names.length e0, .slice A1 curs.length c1, .slice A2 pool.length c2, .int .i64 hor, .int .i64 cel, .int .i64 slo, .int .i64 sta, .slice A7 days.length c7] 26 (0, 0))) ∧ Aside0 (V.heap[rb]? = some (.cells #[.slice none 0 0, .slice none 0 0, .slice none 0 0, .int .i64 0, .int .i64 0, .int .i64 0, .int .i64 0, .slice none 0 0] 26 (0, 0))) ∧ Aside0 (Kd.R Kd.string 9 V V0.heap.size (fun _ => True) (.slice E0 names.length e0) names)) ⟨⟨(HF.out.tr HF1.out).setCell _ _ (.inr hws)⟩, ⟨blk_put HX1.out 0 _ rfl⟩, ⟨((Fr.refl w1 [sb]).setCell ⟨sb, 0, none⟩ _ (.inl (by simp))).blk HZ1.out (by simp; omega)⟩, ⟨R_fr2 HO1.out hfs HX1.out HZ1.out (by decide)⟩⟩ ?_
 clear HX HZ HX1 HZ1 HO1 HF HF1 x0 z0 lx y0 yz0 ly hfs 
 rintro V1 ⟨HF, HX, HZ, HR0⟩
 have x1 := blk_cell HX.out 1
 have z1 := blk_frozen HX.out 1
 have lx := blk_lt HX.out
 go_upto_region 3 with (first | (at_builtin; (refine Kd.R_append_rows Kd.string (w0 := V1) V1.heap.size rfl (.tmp 10) (.tmp 12) 22 9 (.string ⟨#[]⟩) 16 rfl Tryz.underlying22 info9 rfl (by decide) (by decide) _ [] curs A1 curs.length c1 (fun _ => True) (fun _ => False) rfl rfl (empty_R _ _ V1) (Kd.C_alloc (Kd.C_below H1.out HF.out.below) _) (fun _ _ h => h) (fun _ h => h.elim) (fun _ _ => trivial) (below_alloc (Below.refl _ _) _) (by simp) (by simp; omega) ?_); intro v1 w1 ho hb hg hat; have HF1 := AsM (Fr.grown (L := []) (Fr.alloc (Fr.refl V1 []) _) hg (fun k hk => .inr (by injection hk with hk; simp at hk; omega))); rw [List.nil_append] at ho; have HO1 := AsM ho; obtain ⟨E1, e1, rfl, q1, _⟩ := Kd.R_reads ho; have HX1 := AsM (HF1.out.bl HX.out); have HZ1 := AsM (HF1.out.bl HZ.out); have y1 := blk_cell HX1.out 1; have yz1 := blk_frozen HX1.out 1; have ly := blk_lt HX1.out; clear ho hb hg hat))
 have hfs : Fr w1 (w1.setCell ⟨sb, 1, none⟩ (.slice E1 curs.length e1)) [sb, rb] := (Fr.refl w1 _).setCell _ _ (.inl (by simp))
 refine name_' (fun V => Aside0 (Fr w V []) ∧ Aside0 (V.heap[sb]? = some (.cells #[.slice E0 names.length e0, .slice E1 curs.length e1, .slice A2 pool.length c2, .int .i64 hor, .int .i64 cel, .int .i64 slo, .int .i64 sta, .slice A7 days.length c7] 26 (0, 0))) ∧ Aside0 (V.heap[rb]? = some (.cells #[.slice none 0 0, .slice none 0 0, .slice none 0 0, .int .i64 0, .int .i64 0, .int .i64 0, .int .i64 0, .slice none 0 0] 26 (0, 0))) ∧ Aside0 (Kd.R Kd.string 9 V V1.heap.size (fun _ => True) (.slice E1 curs.length e1) curs) ∧ Aside0 (Kd.R Kd.string 9 V V0.heap.size (fun _ => True) (.slice E0 names.length e0) names)) ⟨⟨(HF.out.tr HF1.out).setCell _ _ (.inr hws)⟩, ⟨blk_put HX1.out 1 _ rfl⟩, ⟨((Fr.refl w1 [sb]).setCell ⟨sb, 1, none⟩ _ (.inl (by simp))).blk HZ1.out (by simp; omega)⟩, ⟨R_fr2 HO1.out hfs HX1.out HZ1.out (by decide)⟩, ⟨R_fr2 (Kd.R_below HR0.out HF1.out.below) hfs HX1.out HZ1.out (by decide)⟩⟩ ?_
 clear HX HZ HX1 HZ1 HO1 HF HF1 x1 z1 lx y1 yz1 ly hfs HR0
 rintro V2 ⟨HF, HX, HZ, HR1, HR0⟩
 have x2 := blk_cell HX.out 2
 have z2 := blk_frozen HX.out 2
 have lx := blk_lt HX.out
 go_upto_region 4 with (first | (at_builtin; (refine Kd.R_append_rows (Kd.int .i64) (w0 := V2) V2.heap.size rfl (.tmp 15) (.tmp 17) 23 3 (.int .i64 0) 8 rfl Tryz.underlying23 info3 rfl (by decide) (by decide) _ [] pool A2 pool.length c2 (fun _ => True) (fun _ => False) rfl rfl (empty_R _ _ V2) (Kd.C_alloc (Kd.C_below H2.out HF.out.below) _) (fun _ _ h => h) (fun _ h => h.elim) (fun _ _ => trivial) (below_alloc (Below.refl _ _) _) (by simp) (by simp; omega) ?_); intro v1 w1 ho hb hg hat; have HF1 := AsM (Fr.grown (L := []) (Fr.alloc (Fr.refl V2 []) _) hg (fun k hk => .inr (by injection hk with hk; simp at hk; omega))); rw [List.nil_append] at ho; have HO1 := AsM ho; obtain ⟨E2, e2, rfl, q2, _⟩ := Kd.R_reads ho; have HX1 := AsM (HF1.out.bl HX.out); have HZ1 := AsM (HF1.out.bl HZ.out); have y2 := blk_cell HX1.out 2; have yz2 := blk_frozen HX1.out 2; have ly := blk_lt HX1.out; clear ho hb hg hat))
 have hfs : Fr w1 (w1.setCell ⟨sb, 2, none⟩ (.slice E2 pool.length e2)) [sb, rb] := (Fr.refl w1 _).setCell _ _ (.inl (by simp))
 refine name_' (fun V => Aside0 (Fr w V []) ∧ Aside0 (V.heap[sb]? = some (.cells #[.slice E0 names.length e0, .slice E1 curs.length e1, .slice E2 pool.length e2, .int .i64 hor, .int .i64 cel, .int .i64 slo, .int .i64 sta, .slice A7 days.length c7] 26 (0, 0))) ∧ Aside0 (V.heap[rb]? = some (.cells #[.slice none 0 0, .slice none 0 0, .slice none 0 0, .int .i64 0, .int .i64 0, .int .i64 0, .int .i64 0, .slice none 0 0] 26 (0, 0))) ∧ Aside0 (Kd.R (Kd.int .i64) 3 V V2.heap.size (fun _ => True) (.slice E2 pool.length e2) pool) ∧ Aside0 (Kd.R Kd.string 9 V V1.heap.size (fun _ => True) (.slice E1 curs.length e1) curs) ∧ Aside0 (Kd.R Kd.string 9 V V0.heap.size (fun _ => True) (.slice E0 names.length e0) names)) ⟨⟨(HF.out.tr HF1.out).setCell _ _ (.inr hws)⟩, ⟨blk_put HX1.out 2 _ rfl⟩, ⟨((Fr.refl w1 [sb]).setCell ⟨sb, 2, none⟩ _ (.inl (by simp))).blk HZ1.out (by simp; omega)⟩, ⟨R_fr2 HO1.out hfs HX1.out HZ1.out (by decide)⟩, ⟨R_fr2 (Kd.R_below HR1.out HF1.out.below) hfs HX1.out HZ1.out (by decide)⟩, ⟨R_fr2 (Kd.R_below HR0.out HF1.out.below) hfs HX1.out HZ1.out (by decide)⟩⟩ ?_
 clear HX HZ HX1 HZ1 HO1 HF HF1 x2 z2 lx y2 yz2 ly hfs HR1 HR0
 rintro V3 ⟨HF, HX, HZ, HR2, HR1, HR0⟩
 go_wp2
 go_loopg [3, 4] days.length (fun kq s3 s4 wr => ∃ i : Nat, s4 = .int .i64 i ∧ i ≤ days.length ∧ Aside0 (days.length - i ≤ kq) ∧ Aside0 (Fr V3 wr []) ∧ Aside0 (Kd.R k54 54 wr V3.heap.size (fun _ => True) s3 (days.take i)))
 case atStart => exact ⟨0, rfl, Nat.zero_le _, ⟨Nat.le_refl _⟩, ⟨Fr.refl _ _⟩, ⟨Kd.R_nil _ _ _ _ _⟩⟩
 case round =>
  obtain ⟨i, rfl, hi, HM, HFi, HR⟩ := hrel
  have HXi := AsM (HFi.out.bl HX.out)
  have x7 := blk_cell HXi.out 7
  have lx := blk_lt HXi.out
  by_cases hil : i < days.length
  ·have n3 : decide (i < days.length) = true := by simpa using hil
   have p0 : (0 : Int) ≤ (i : Int) := by omega
   have p1 : (i : Int) < days.length := by omega
   obtain ⟨ad, R0, cR, rfl, g0, g1, _, hR⟩ := dy_at H7.out i hil
   have HSN := AsM (take_one z54 days i hil)
   obtain ⟨s, hx⟩ : ∃ x, days.getD i z54 = x := ⟨_, rfl⟩
   have hmr := HC.out s (by rw [← hx, List.getD_eq_getElem?_getD, List.getElem?_eq_getElem hil]; exact List.getElem_mem _)
   rw [hx] at g0 g1 hR HSN
   obtain ⟨day, code⟩ := s
   simp only at g0 g1 hR hmr
   have hfw := HF.out.tr HFi.out
   have q0 := frv g0 hfw
   have q1 := frv g1 hfw
   have G0 := AsM g0
   have G1 := AsM g1
   have HRR := AsM (Kd.C_below hR hfw.below)
   have htl : (days.take i).length ≤ i := by rw [List.length_take]; omega
   clear hx g0 g1 hR hfw
   go_wp2
   go_region_held3 (fun w' => w'.cell? ⟨sb, 7, none⟩ = some (.slice (some ad) days.length c7) ∧ w'.cell? (ad.add (i * 2)) = some (.int .i64 day) ∧ w'.cell? ⟨(ad.add (i * 2)).block, (ad.add (i * 2)).off + 1, none⟩ = some (.slice R0 code.length cR)) (first | exact ⟨z7, z0, z1⟩ | exact ⟨y7, y0, y1⟩ | (refine ⟨frv y7 ?_, frv y0 ?_, frv y1 ?_⟩ <;> exact FQ) | (refine ⟨frv x7 ?_, frv q0 ?_, frv q1 ?_⟩ <;> exact FQ) | go_keep) (first
    | (refine Kd.R_append_step k54 (w0 := V3) (W := w1) V3.heap.size ?hw (.tmp 27) (.tmp 43) 24 54 (.agg #[.int .i64 0, .slice none 0 0]) 32 ?ho Tryz.underlying24 info54 rfl (by decide) (by decide) u3 (days.take i) ⟨day, code⟩ [.int .i64 day, .slice E7 code.length e7] (fun _ => True) (fun k => some k ≠ u3.ownBlock) ?hs ?hx HP.out (fun q h => ⟨trivial, h⟩) (fun _ _ => trivial) (Kd.R_below HR.out HF1.out.below) (HFi.out.tr HF1.out).below (HFi.out.tr HF1.out).size (by omega) ?_; (case hw => rfl); (case ho => rfl); (case hs => rfl); (case hx => rfl); intro v4 w4 hR4 hb4 hg4 hat4; have HR4 := AsM hR4; have HF4 : Aside0 (Fr V3 w4 []) := ⟨fr_grown2 (HFi.out.tr HF1.out) hg4 (Kd.R_base HR.out)⟩; have z7 := blk_cell (HF4.out.bl HX.out) 7; have z0 := frv G0.out (HF.out.tr HF4.out); have z1 := frv G1.out (HF.out.tr HF4.out); clear hR4 hb4 hg4 hat4)
    | (refine Kd.R_append_rows_step k113 (w0 := wr) wr.heap.size ?hw (.tmp 34) (.tmp 40) 52 113 (.agg #[.int .i64 0, .int .i64 0, .int .i64 0]) 24 ?ho Tryz.underlying52 info113 rfl (by decide) (by decide) (.slice (some ⟨wr.heap.size, 0, none⟩) 0 0) [] code R0 code.length cR (fun _ => True) (fun _ => False) ?hs ?hx ?aO ?aR (fun _ _ h => h) (fun _ h => h.elim) (fun _ _ => trivial) ?aB ?aS ?aL ?_; (case hw => rfl); (case ho => rfl); (case hs => rfl); (case hx => rfl); (case aO => (with_reducible (repeat (first | apply Kd.R_drewN | apply Kd.R_drew))); exact empty_R _ _ wr); (case aR => exact Kd.C_below HRR.out (Fr.below FQ)); (case aB => exact (Fr.below FQ)); (case aS => exact (Fr.size (L := []) FQ)); (case aL => (simp; omega)); intro v1 w1 ho hb hg hat; have HF1 : Aside0 (Fr wr w1 []) := ⟨Fr.grown (L := []) FQ hg (fun k hk => .inr (by injection hk with hk; simp at hk; omega))⟩; rw [List.nil_append] at ho; obtain ⟨E7, e7, rfl, _, _⟩ := Kd.R_reads ho; have HP : Aside0 (k54.M w1 V3.heap.size (fun k => some k ≠ u3.ownBlock) ⟨day, code⟩ [.int .i64 day, .slice E7 code.length e7]) := ⟨k54_mkM _ _ _ ⟨day, code⟩ (Kd.R_lower (Kd.R_mono (Kd.R_new' ho (Kd.R_lt HR.out)) (fun k hk => hk.2)) HFi.out.size)⟩; have y7 := frv x7 HF1.out; have y0 := frv q0 HF1.out; have y1 := frv q1 HF1.out; clear ho hb hg hat)
    | fail)
   go_wp2
   go_roundg (days.length - (i + 1))
   case measure => have := HM.out; omega
   case rel => exact ⟨i + 1, by go_num, by omega, ⟨Nat.le_refl _⟩, HF4, ⟨by rw [HSN.out]; exact HR4.out⟩⟩
  ·obtain rfl : i = days.length := by omega
   have n3 : decide (days.length < days.length) = false := by simp
   have hR := HR.out
   rw [List.take_of_length_le (Nat.le_refl _)] at hR
   obtain ⟨E7, e7, rfl, q7, _⟩ := Kd.R_reads hR
   have y7 := blk_cell HXi.out 7
   have yz7 := blk_frozen HXi.out 7
   have hZi := HFi.out.bl HZ.out
   go_upto_region 10 with fail
   have hfs : Fr wr (wr.setCell ⟨sb, 7, none⟩ (.slice E7 days.length e7)) [sb, rb] := (Fr.refl wr _).setCell _ _ (.inl (by simp))
   refine name_' (fun V => Aside0 (Fr w V []) ∧ Aside0 (V.heap[sb]? = some (.cells #[.slice E0 names.length e0, .slice E1 curs.length e1, .slice E2 pool.length e2, .int .i64 hor, .int .i64 cel, .int .i64 slo, .int .i64 sta, .slice E7 days.length e7] 26 (0, 0))) ∧ Aside0 (V.heap[rb]? = some (.cells #[.slice none 0 0, .slice none 0 0, .slice none 0 0, .int .i64 0, .int .i64 0, .int .i64 0, .int .i64 0, .slice none 0 0] 26 (0, 0))) ∧ Aside0 (Kd.R k54 54 V V3.heap.size (fun _ => True) (.slice E7 days.length e7) days) ∧ Aside0 (Kd.R (Kd.int .i64) 3 V V2.heap.size (fun _ => True) (.slice E2 pool.length e2) pool) ∧ Aside0 (Kd.R Kd.string 9 V V1.heap.size (fun _ => True) (.slice E1 curs.length e1) curs) ∧ Aside0 (Kd.R Kd.string 9 V V0.heap.size (fun _ => True) (.slice E0 names.length e0) names)) ⟨⟨(HF.out.tr HFi.out).setCell _ _ (.inr hws)⟩, ⟨blk_put HXi.out 7 _ rfl⟩, ⟨((Fr.refl wr [sb]).setCell ⟨sb, 7, none⟩ _ (.inl (by simp))).blk hZi (by simp; omega)⟩, ⟨R_fr2 hR hfs HXi.out hZi (by decide)⟩, ⟨R_fr2 (Kd.R_below HR2.out HFi.out.below) hfs HXi.out hZi (by decide)⟩, ⟨R_fr2 (Kd.R_below HR1.out HFi.out.below) hfs HXi.out hZi (by decide)⟩, ⟨R_fr2 (Kd.R_below HR0.out HFi.out.below) hfs HXi.out hZi (by decide)⟩⟩ ?_
   clear hR HR HR0 HR1 HR2 HX HZ HXi HF HFi x7 lx y7 yz7 hZi hfs
   rintro V ⟨HF, HX, HZ, HR7, HR2, HR1, HR0⟩
   obtain ⟨x0, x1, x2, x3, x4, x5, x6, x7⟩ := cc8 HX.out
   obtain ⟨z0, z1, z2, z3, z4, z5, z6, z7⟩ := cc8 HZ.out
   have hz := fun i => blk_frozen HZ.out i
   have lx := blk_lt HX.out
   have lz := blk_lt HZ.out
   go_wp2
   refine bodyPost_ret (results_cell_row rfl _ _ rb 26 _ (0, 0) _ rfl (put8 HZ.out _ _ _ _ _ _ _ _) hut rfl (by kernel_rfl)) rfl ?_
   have hfe : Fr V ((((((((V.setCell ⟨rb, 0, none⟩ (.slice E0 names.length e0)).setCell ⟨rb, 1, none⟩ (.slice E1 curs.length e1)).setCell ⟨rb, 2, none⟩ (.slice E2 pool.length e2)).setCell ⟨rb, 3, none⟩ (.int .i64 hor)).setCell ⟨rb, 4, none⟩ (.int .i64 cel)).setCell ⟨rb, 5, none⟩ (.int .i64 slo)).setCell ⟨rb, 6, none⟩ (.int .i64 sta)).setCell ⟨rb, 7, none⟩ (.slice E7 days.length e7)) [sb, rb] := FQ
   exact ⟨E0, e0, E1, e1, E2, e2, E7, e7, rfl, HF.out.trans hfe (by simp; omega), ⟨q0, (Kd.R_reads' (R_fr2 HR0.out hfe HX.out HZ.out (by decide))).2.2⟩, ⟨q1, (Kd.R_reads' (R_fr2 HR1.out hfe HX.out HZ.out (by decide))).2.2⟩, ⟨q2, (Kd.R_reads' (R_fr2 HR2.out hfe HX.out HZ.out (by decide))).2.2⟩, q7, (Kd.R_reads' (R_fr2 HR7.out hfe HX.out HZ.out (by decide))).2.2⟩
theorem Buf.conv {w : World} {b : Nat} {v : Value} {l : List Int} (h : Buf True w b v l) : (convert 32 9 v).run Tryz.prog w = .ok (.string (strOfNums l)) w := by
 obtain ⟨A, c, rfl, _, hC⟩ := h.reads
 exact Kd.C_string Tryz.underlying32 Tryz.underlying5 Tryz.underlying9 hC
theorem Buf.some_ {w : World} {base n c : Nat} {A : Option Addr} {l : List Int} (h : Buf True w base (.slice A n c) l) (hn : 0 < n) : ∃ g, A = some ⟨g, 0, none⟩ := by
 rcases h with ⟨h, _⟩ | ⟨g, cap, cur, fr, hv, _⟩
 ·injection h with _ h2 _
  omega
 ·injection hv with h1 _ _
  exact ⟨g, h1⟩
theorem two_C (w : World) : Kd.C (Kd.int .u8) (w.alloc (.cells #[.int .u8 221, .int .u8 221] 5)) (some ⟨w.heap.size, 0, none⟩) [(221 : Int), 221].length [(221 : Int), 221] := (Kd.R_reads' (lit8_R [221, 221] (by simp) w 0 (Nat.zero_le _))).2.2
theorem saveEncodes_calls (A0 : Option Addr) (c0 : Nat) (names : List ByteArray) (A1 : Option Addr) (c1 : Nat) (curs : List ByteArray) (A2 : Option Addr) (c2 : Nat) (pool : List Int) (hor cel slo sta : Int) (A7 : Option Addr) (c7 : Nat) (days : List S54) (a0 a1 : Int) (B2 : Option Addr) (d2 : Nat) (l2 : List Int) (B3 : Option Addr) (d3 : Nat) (l3 : List (List S45)) (a4 a5 : Int) (w : World) (hp : PIn names curs pool days w A0 c0 A1 c1 A2 c2 A7 c7) (hs : SIn l2 l3 w B2 d2 B3 d3)
  (hn : names.length < 8796093022208) (hu : curs.length < 8796093022208) (hpl : pool.length < 17592186044416) (hd : days.length < 4398046511104) (hc : ∀ s ∈ days, s.f1.length < 5864062014805) (h2 : l2.length < 17592186044416) (h3 : l3.length < 5864062014805) (h4 : ∀ s ∈ l3, s.length < 8796093022208) (hsz : ∀ s ∈ names, s.size ≤ 9223372036854775806)
  (hip : ∀ x ∈ pool, -9223372036854775808 ≤ x ∧ x < 9223372036854775808) (h1 : a1 < 9223372036854775808) (hi2 : ∀ x ∈ l2, -9223372036854775808 ≤ x ∧ x < 9223372036854775808) (hi3 : ∀ r ∈ l3, ∀ c ∈ r, -9223372036854775808 ≤ c.f1 ∧ c.f1 < 9223372036854775808) (G : TabW w) :
  Calls Tryz.prog 3 #[.agg #[.slice A0 names.length c0, .slice A1 curs.length c1, .slice A2 pool.length c2, .int .i64 hor, .int .i64 cel, .int .i64 slo, .int .i64 sta, .slice A7 days.length c7], .agg #[.int .i64 a0, .int .i64 a1, .slice B2 l2.length d2, .slice B3 l3.length d3, .int .i64 a4, .int .i64 a5]] w fun e w' => e = .returned (.bool true) ∧ Below w.heap.size w w' := by
 obtain ⟨⟨rl, rc⟩, hrl0, hE, hR⟩ := both_calls names curs pool hor cel slo sta days a0 a1 l2 l3 a4 a5 (by omega) (fun s hs => by have := hc s hs; omega) hsz hip h1 hi2 hi3
 have hrl : rl.length ≤ 4194304 := hrl0
 clear hrl0
 have CP : Aside0 (∀ W, Fr w W [] → Calls Tryz.prog 6 #[.agg #[.slice A0 names.length c0, .slice A1 curs.length c1, .slice A2 pool.length c2, .int .i64 hor, .int .i64 cel, .int .i64 slo, .int .i64 sta, .slice A7 days.length c7]] W (CopP names curs pool hor cel slo sta days W)) := ⟨fun W h => copP_calls A0 c0 names A1 c1 curs A2 c2 pool hor cel slo sta A7 c7 days W (hp.fr h).1.2 hp.1.1 (hp.fr h).2.1.2 hp.2.1.1 (hp.fr h).2.2.1.2 hp.2.2.1.1 (hp.fr h).2.2.2.2 hp.2.2.2.1 hn hu hpl hd hc⟩
 have CS : Aside0 (∀ W, Fr w W [] → Calls Tryz.prog 4 #[.agg #[.int .i64 a0, .int .i64 a1, .slice B2 l2.length d2, .slice B3 l3.length d3, .int .i64 a4, .int .i64 a5]] W (CopS a0 a1 l2 l3 a4 a5 W)) := ⟨fun W h => copS_calls a0 a1 B2 d2 l2 B3 d3 l3 a4 a5 W (hs.fr h).1.2 hs.1.1 (hs.fr h).2.2 hs.2.1 h2 h3 h4⟩
 have CR : Aside0 (∀ W, Fr w W [] → Calls Tryz.prog 7 #[.agg #[.slice A0 names.length c0, .slice A1 curs.length c1, .slice A2 pool.length c2, .int .i64 hor, .int .i64 cel, .int .i64 slo, .int .i64 sta, .slice A7 days.length c7], .agg #[.int .i64 a0, .int .i64 a1, .slice B2 l2.length d2, .slice B3 l3.length d3, .int .i64 a4, .int .i64 a5]] W (SavePost (rl, rc) W)) := ⟨fun W h => hR W A0 c0 A1 c1 A2 c2 A7 c7 B2 d2 B3 d3 (G.fr0 h) (hp.fr h) (hs.fr h)⟩
 have CE : Aside0 (∀ W, Fr w W [] → ∀ E0 e0 E1 e1 E2 e2 E7 e7 Y2 y2 Y3 y3, PIn names curs pool days W E0 e0 E1 e1 E2 e2 E7 e7 → SIn l2 l3 W Y2 y2 Y3 y3 → Calls Tryz.prog 5 #[.agg #[.slice E0 names.length e0, .slice E1 curs.length e1, .slice E2 pool.length e2, .int .i64 hor, .int .i64 cel, .int .i64 slo, .int .i64 sta, .slice E7 days.length e7], .agg #[.int .i64 a0, .int .i64 a1, .slice Y2 l2.length y2, .slice Y3 l3.length y3, .int .i64 a4, .int .i64 a5]] W (SavePost (rl, rc) W)) := ⟨fun W h E0 e0 E1 e1 E2 e2 E7 e7 Y2 y2 Y3 y3 h1 h2 => hE W E0 e0 E1 e1 E2 e2 E7 e7 Y2 y2 Y3 y3 (G.fr0 h) h1 h2⟩
 have CM : Aside0 (∀ W Y2 y2 Y3 y3, Fr w W [] → SIn l2 l3 W Y2 y2 Y3 y3 → Calls Tryz.prog 8 #[.agg #[.int .i64 a0, .int .i64 a1, .slice Y2 l2.length y2, .slice Y3 l3.length y3, .int .i64 a4, .int .i64 a5], .agg #[.int .i64 a0, .int .i64 a1, .slice B2 l2.length d2, .slice B3 l3.length d3, .int .i64 a4, .int .i64 a5]] W fun e w' => e = .returned (.bool true) ∧ Fr W w' []) := ⟨fun W Y2 y2 Y3 y3 h hy => same_calls a0 a1 Y2 y2 l2 Y3 y3 l3 a4 a5 B2 d2 B3 d3 W hy.1.2 hy.2.2 (hs.fr h).1.2 (hs.fr h).2.2 h2 h3 h4⟩
 clear hp hs hn hu hpl hd hc h2 h3 h4 hsz hip h1 hi2 hi3 G hE hR
 have hup := Tryz.underlying26
 have hus := Tryz.underlying30
 go_enter Tryz.func3, Tryz.ntmps3
 go_upto_region 1 with fail
 refine name_ (fun V => Aside0 (Fr w V []) ∧ Aside0 (V.heap[w.heap.size]? = some (.cells #[.slice A0 names.length c0, .slice A1 curs.length c1, .slice A2 pool.length c2, .int .i64 hor, .int .i64 cel, .int .i64 slo, .int .i64 sta, .slice A7 days.length c7] 26 (0, 0))) ∧ Aside0 (V.heap[w.heap.size + 1]? = some (.cells #[.int .i64 a0, .int .i64 a1, .slice B2 l2.length d2, .slice B3 l3.length d3, .int .i64 a4, .int .i64 a5] 30 (0, 0)))) ⟨⟨FQ⟩, ⟨blk_alloc (blk_newN rfl) _⟩, ⟨blk_newN (by simp)⟩⟩ ?_
 rintro W0 ⟨HF0, HX0, HS0⟩
 obtain ⟨sb, hsb⟩ : ∃ sb, w.heap.size + 1 = sb := ⟨_, rfl⟩
 obtain ⟨pb, hpb⟩ : ∃ pb, w.heap.size = pb := ⟨_, rfl⟩
 rw [hsb] at HS0 ⊢
 rw [hpb] at HX0 ⊢
 obtain ⟨s00, s01, s02, s03, s04, s05⟩ := cc6 HS0.out
 have sl0 := blk_lt HS0.out
 go_upto_region 2 with (first
  | (go_at_call 4; ((with_reducible refine (CS.out _ HF0.out).mono ?_); rintro e W1 ⟨Y2, y2, Y3, y3, rfl, hF, hy⟩; have HY1 : Aside0 (SIn l2 l3 W1 Y2 y2 Y3 y3) := ⟨hy⟩; have HF1 := AsM (HF0.out.tr hF); have HX1 := AsM (hF.bl HX0.out); have HS1 := AsM (hF.bl HS0.out); clear hF hy)))
 obtain ⟨qb, hqb⟩ : ∃ qb, W1.heap.size = qb := ⟨_, rfl⟩
 obtain ⟨V1, hV1⟩ : ∃ V1, W1.alloc (.cells #[.int .i64 a0, .int .i64 a1, .slice Y2 l2.length y2, .slice Y3 l3.length y3, .int .i64 a4, .int .i64 a5] 30) = V1 := ⟨_, rfl⟩
 have hF11 : Fr W1 V1 [] := hV1 ▸ (Fr.refl W1 []).alloc _
 have HQV1 : Aside0 (V1.heap[qb]? = some (.cells #[.int .i64 a0, .int .i64 a1, .slice Y2 l2.length y2, .slice Y3 l3.length y3, .int .i64 a4, .int .i64 a5] 30 (0, 0))) := ⟨hqb ▸ hV1 ▸ blk_newN rfl⟩
 have HFV1 : Aside0 (Fr w V1 []) := ⟨HF1.out.tr hF11⟩
 have HXV1 := AsM (hF11.bl HX1.out)
 have HSV1 := AsM (hF11.bl HS1.out)
 have HYV1 := AsM (HY1.out.fr hF11)
 have F01 := AsM HFV1.out
 have HSV0 := AsM HSV1.out
 have HQV0 := AsM HQV1.out
 have HYV0 := AsM HYV1.out
 rw [hqb, hV1]
 clear hF11 HX1 HS1 HF1 hV1 hqb HY1 HF0 HX0 HS0 s00 s01 s02 s03 s04 s05 sl0
 obtain ⟨xV10, xV11, xV12, xV13, xV14, xV15, xV16, xV17⟩ := cc8 HXV1.out
 obtain ⟨xV1q0, xV1q1, xV1q2, xV1q3, xV1q4, xV1q5⟩ := cc6 HQV1.out
 go_region_held3 (fun w' => w'.cell? ⟨pb, 0, none⟩ = some (.slice A0 names.length c0) ∧ w'.cell? ⟨pb, 1, none⟩ = some (.slice A1 curs.length c1) ∧ w'.cell? ⟨pb, 2, none⟩ = some (.slice A2 pool.length c2) ∧ w'.cell? ⟨pb, 3, none⟩ = some (.int .i64 hor) ∧ w'.cell? ⟨pb, 4, none⟩ = some (.int .i64 cel) ∧ w'.cell? ⟨pb, 5, none⟩ = some (.int .i64 slo) ∧ w'.cell? ⟨pb, 6, none⟩ = some (.int .i64 sta) ∧ w'.cell? ⟨pb, 7, none⟩ = some (.slice A7 days.length c7) ∧ w'.cell? ⟨qb, 0, none⟩ = some (.int .i64 a0) ∧ w'.cell? ⟨qb, 1, none⟩ = some (.int .i64 a1) ∧ w'.cell? ⟨qb, 2, none⟩ = some (.slice Y2 l2.length y2) ∧ w'.cell? ⟨qb, 3, none⟩ = some (.slice Y3 l3.length y3) ∧ w'.cell? ⟨qb, 4, none⟩ = some (.int .i64 a4) ∧ w'.cell? ⟨qb, 5, none⟩ = some (.int .i64 a5)) (first | exact ⟨zV10, zV11, zV12, zV13, zV14, zV15, zV16, zV17, zV1q0, zV1q1, zV1q2, zV1q3, zV1q4, zV1q5⟩ | exact ⟨yV10, yV11, yV12, yV13, yV14, yV15, yV16, yV17, yV1q0, yV1q1, yV1q2, yV1q3, yV1q4, yV1q5⟩ | exact ⟨xV10, xV11, xV12, xV13, xV14, xV15, xV16, xV17, xV1q0, xV1q1, xV1q2, xV1q3, xV1q4, xV1q5⟩ | go_keep) (first
  | (go_simp; go_at_call 6; (with_reducible refine (CP.out _ ?_).mono ?_); (next => exact FX HFV1.out); rintro e pW2 ⟨E0, e0, E1, e1, E2, e2, E7, e7, rfl, hF1, hp1⟩; have FP : Aside0 (Fr V1 pW2 []) := ⟨Fr.trans (L := []) (M := []) FQ hF1 (by simp)⟩; have HPN : Aside0 (PIn names curs pool days pW2 E0 e0 E1 e1 E2 e2 E7 e7) := ⟨hp1⟩; have HXp := AsM (FP.out.bl HXV1.out); have HQp := AsM (FP.out.bl HQV1.out); clear hF1 hp1; obtain ⟨yV10, yV11, yV12, yV13, yV14, yV15, yV16, yV17⟩ := cc8 HXp.out; obtain ⟨yV1q0, yV1q1, yV1q2, yV1q3, yV1q4, yV1q5⟩ := cc6 HQp.out)
  | (go_simp; go_at_call 5; (with_reducible refine (CE.out _ ?_ E0 e0 E1 e1 E2 e2 E7 e7 Y2 y2 Y3 y3 (HPN.out.fr FQ) (HYV1.out.fr (FP.out.trans (M := []) FQ (by simp)))).mono ?_); (next => exact HFV1.out.trans (M := []) (FP.out.trans (M := []) FQ (by simp)) (by simp)); rintro e W2 ⟨vW2, rfl, hB, hF2⟩; have FB : Aside0 (Fr V1 W2 []) := ⟨FP.out.trans (M := []) (Fr.trans (L := []) (M := []) FQ hF2 (by simp)) (by simp)⟩; have HBb : Aside0 (Buf True W2 V1.heap.size vW2 rl) := ⟨hB.lower (Fr.size (FP.out.trans (M := []) FQ (by simp)))⟩; have HXW2 := AsM (FB.out.bl HXV1.out); have HQW2 := AsM (FB.out.bl HQV1.out); clear hB hF2; obtain ⟨zV10, zV11, zV12, zV13, zV14, zV15, zV16, zV17⟩ := cc8 HXW2.out; obtain ⟨zV1q0, zV1q1, zV1q2, zV1q3, zV1q4, zV1q5⟩ := cc6 HQW2.out)
  | fail)
 all_goals (clear xV10 xV1q0 xV11 xV1q1 xV12 xV1q2 xV13 xV1q3 xV14 xV1q4 xV15 xV1q5 xV16 xV17 yV10 yV1q0 yV11 yV1q1 yV12 yV1q2 yV13 yV1q3 yV14 yV1q4 yV15 yV1q5 yV16 yV17 zV10 zV1q0 zV11 zV1q1 zV12 zV1q2 zV13 zV1q3 zV14 zV1q4 zV15 zV1q5 zV16 zV17)
 have HFW2 : Aside0 (Fr w W2 []) := ⟨HFV1.out.tr FB.out⟩
 have HSW2 := AsM (FB.out.bl HSV1.out)
 have HYW2 := AsM (HYV1.out.fr FB.out)
 have HBL := AsM (fun k hk => (HBb.out.blk k hk).2)
 have HBU := AsM (fun k hk => (HBb.out.blk k hk).1)
 have F12 := AsM FB.out
 clear FB FP HPN HXp HQp HFV1 HXV1 HSV1 HQV1 HYV1
 go_wp2
 obtain ⟨xW20, xW21, xW22, xW23, xW24, xW25, xW26, xW27⟩ := cc8 HXW2.out
 obtain ⟨xW2q0, xW2q1, xW2q2, xW2q3, xW2q4, xW2q5⟩ := cc6 HQW2.out
 go_region_held3 (fun w' => w'.cell? ⟨pb, 0, none⟩ = some (.slice A0 names.length c0) ∧ w'.cell? ⟨pb, 1, none⟩ = some (.slice A1 curs.length c1) ∧ w'.cell? ⟨pb, 2, none⟩ = some (.slice A2 pool.length c2) ∧ w'.cell? ⟨pb, 3, none⟩ = some (.int .i64 hor) ∧ w'.cell? ⟨pb, 4, none⟩ = some (.int .i64 cel) ∧ w'.cell? ⟨pb, 5, none⟩ = some (.int .i64 slo) ∧ w'.cell? ⟨pb, 6, none⟩ = some (.int .i64 sta) ∧ w'.cell? ⟨pb, 7, none⟩ = some (.slice A7 days.length c7) ∧ w'.cell? ⟨qb, 0, none⟩ = some (.int .i64 a0) ∧ w'.cell? ⟨qb, 1, none⟩ = some (.int .i64 a1) ∧ w'.cell? ⟨qb, 2, none⟩ = some (.slice Y2 l2.length y2) ∧ w'.cell? ⟨qb, 3, none⟩ = some (.slice Y3 l3.length y3) ∧ w'.cell? ⟨qb, 4, none⟩ = some (.int .i64 a4) ∧ w'.cell? ⟨qb, 5, none⟩ = some (.int .i64 a5)) (first | exact ⟨zW20, zW21, zW22, zW23, zW24, zW25, zW26, zW27, zW2q0, zW2q1, zW2q2, zW2q3, zW2q4, zW2q5⟩ | exact ⟨yW20, yW21, yW22, yW23, yW24, yW25, yW26, yW27, yW2q0, yW2q1, yW2q2, yW2q3, yW2q4, yW2q5⟩ | exact ⟨xW20, xW21, xW22, xW23, xW24, xW25, xW26, xW27, xW2q0, xW2q1, xW2q2, xW2q3, xW2q4, xW2q5⟩ | go_keep) (first
  | (go_simp; go_at_call 6; (with_reducible refine (CP.out _ ?_).mono ?_); (next => exact FX HFW2.out); rintro e pW3 ⟨E0, e0, E1, e1, E2, e2, E7, e7, rfl, hF1, hp1⟩; have FP : Aside0 (Fr W2 pW3 []) := ⟨Fr.trans (L := []) (M := []) FQ hF1 (by simp)⟩; have HPN : Aside0 (PIn names curs pool days pW3 E0 e0 E1 e1 E2 e2 E7 e7) := ⟨hp1⟩; have HXp := AsM (FP.out.bl HXW2.out); have HQp := AsM (FP.out.bl HQW2.out); clear hF1 hp1; obtain ⟨yW20, yW21, yW22, yW23, yW24, yW25, yW26, yW27⟩ := cc8 HXp.out; obtain ⟨yW2q0, yW2q1, yW2q2, yW2q3, yW2q4, yW2q5⟩ := cc6 HQp.out)
  | (go_simp; go_at_call 5; (with_reducible refine (CE.out _ ?_ E0 e0 E1 e1 E2 e2 E7 e7 Y2 y2 Y3 y3 (HPN.out.fr FQ) (HYW2.out.fr (FP.out.trans (M := []) FQ (by simp)))).mono ?_); (next => exact HFW2.out.trans (M := []) (FP.out.trans (M := []) FQ (by simp)) (by simp)); rintro e W3 ⟨vW3, rfl, hB, hF2⟩; have FB : Aside0 (Fr W2 W3 []) := ⟨FP.out.trans (M := []) (Fr.trans (L := []) (M := []) FQ hF2 (by simp)) (by simp)⟩; have HBd : Aside0 (Buf True W3 W2.heap.size vW3 rl) := ⟨hB.lower (Fr.size (FP.out.trans (M := []) FQ (by simp)))⟩; have HXW3 := AsM (FB.out.bl HXW2.out); have HQW3 := AsM (FB.out.bl HQW2.out); clear hB hF2; obtain ⟨zW20, zW21, zW22, zW23, zW24, zW25, zW26, zW27⟩ := cc8 HXW3.out; obtain ⟨zW2q0, zW2q1, zW2q2, zW2q3, zW2q4, zW2q5⟩ := cc6 HQW3.out)
  | fail)
 all_goals (clear xW20 xW2q0 xW21 xW2q1 xW22 xW2q2 xW23 xW2q3 xW24 xW2q4 xW25 xW2q5 xW26 xW27 yW20 yW2q0 yW21 yW2q1 yW22 yW2q2 yW23 yW2q3 yW24 yW2q4 yW25 yW2q5 yW26 yW27 zW20 zW2q0 zW21 zW2q1 zW22 zW2q2 zW23 zW2q3 zW24 zW2q4 zW25 zW2q5 zW26 zW27)
 have HFW3 : Aside0 (Fr w W3 []) := ⟨HFW2.out.tr FB.out⟩
 have HSW3 := AsM (FB.out.bl HSW2.out)
 have HYW3 := AsM (HYW2.out.fr FB.out)
 have HBb3 := AsM (HBb.out.fr FB.out)
 have F23 := AsM FB.out
 clear FB FP HPN HXp HQp HFW2 HXW2 HSW2 HQW2 HYW2 HBb
 obtain ⟨x0, x1, x2, x3, x4, x5, x6, x7⟩ := cc8 HXW3.out
 obtain ⟨s0, s1, s2, s3, s4, s5⟩ := cc6 HSW3.out
 have lx := blk_lt HXW3.out
 have ls := blk_lt HSW3.out
 go_upto_region 5 with (first
  | (go_at_call 7; ((with_reducible refine (CR.out _ HFW3.out).mono ?_); rintro e W4 ⟨vW4, rfl, hB, hF⟩; have HBc4 : Aside0 (Buf True W4 W3.heap.size vW4 rl) := ⟨hB⟩; have HF4 := AsM (HFW3.out.tr hF); have HS4 := AsM (hF.bl HSW3.out); have HQ4 := AsM (hF.bl HQW3.out); have HY4 := AsM (HYW3.out.fr hF); have HBb4 := AsM (HBb3.out.fr hF); have HBd4 := AsM (HBd.out.fr hF); have F34 := AsM hF; clear hB hF)))
 clear x0 x1 x2 x3 x4 x5 x6 x7 s0 s1 s2 s3 s4 s5 lx ls HXW3 HSW3 HQW3 HYW3 HBb3 HBd HFW3
 have cvb := HBb4.out.conv
 have cvd := HBd4.out.conv
 have cvc := HBc4.out.conv
 have HST : Aside0 (∀ w b v, Buf True w b v rl → (convert 32 9 v).run Tryz.prog w = .ok (.string (strOfNums rl)) w) := ⟨fun w b v h => h.conv⟩
 obtain ⟨st, hst⟩ : ∃ st, strOfNums rl = st := ⟨_, rfl⟩
 rw [hst] at cvb cvd cvc HST
 clear hst
 obtain ⟨Ab, cb, rfl, hbl, _⟩ := HBb4.out.reads
 obtain ⟨q40, q41, q42, q43, q44, q45⟩ := cc6 HQ4.out
 obtain ⟨s40, s41, s42, s43, s44, s45⟩ := cc6 HS4.out
 have lq4 := blk_lt HQ4.out
 have ls4 := blk_lt HS4.out
 go_wp2_with (first
  | (go_at_call 8; ((with_reducible refine (CM.out _ _ _ _ _ HF4.out HY4.out).mono ?_); rintro e W5 ⟨rfl, hF⟩; have F45 := AsM hF; clear hF)))
 clear q40 s40 q41 s41 q42 s42 q43 s43 q44 s44 q45 s45 lq4 ls4
 have HBb5 := AsM (HBb4.out.fr F45.out)
 have HBd5 := AsM (HBd4.out.fr F45.out)
 have HBc5 := AsM (HBc4.out.fr F45.out)
 have HF5 := AsM (HF4.out.tr F45.out)
 have HS5 := AsM (F45.out.bl HS4.out)
 have HQ5 := AsM (F45.out.bl HQ4.out)
 have HY5 := AsM (HY4.out.fr F45.out)
 have HV5 : Aside0 (Fr V1 W5 []) := ⟨(F12.out.trans (F23.out.trans (F34.out.tr F45.out) (by simp)) (by simp))⟩
 clear cvb cvd cvc F45 HF4 HS4 HQ4 HY4 HBb4 HBd4 HBc4
 obtain ⟨n, hnn⟩ : ∃ n, rl.length = n := ⟨_, rfl⟩
 rw [hnn] at HBb5 HBU HBL hrl ⊢
 have HNN := AsM hnn
 clear hnn
 go_loopg [12] n (fun kq s12 w3 => ∃ (i : Nat) (l : List Int), s12 = .int .i64 i ∧ i ≤ n ∧ Aside0 (n - i ≤ kq) ∧ Aside0 (l.length = n) ∧ Aside0 (Buf True w3 V1.heap.size (.slice Ab n cb) l) ∧ Aside0 (W5.grownBy w3 (Value.slice Ab n cb).ownBlock))
 case atStart => exact ⟨0, rl, rfl, Nat.zero_le _, ⟨Nat.le_refl _⟩, HNN, HBb5, ⟨grown_refl _ _⟩⟩
 case round =>
  obtain ⟨i, l, rfl, hi, HM, HL, HB, HG⟩ := hrel
  by_cases hil : i < n
  ·have n3 : decide (i < n) = true := by simpa using hil
   have p0 : (0 : Int) ≤ (i : Int) := by omega
   have p1 : (i : Int) < n := by omega
   obtain ⟨g, rfl⟩ := HB.out.some_ (by omega)
   obtain ⟨⟨y, hy⟩, hfz, hB2, hG2⟩ := HB.out.set i hil 238
   have HB2 := AsM hB2
   have HG2 : Aside0 (W5.grownBy (wr.setCell ⟨g, i, none⟩ (.int .u8 238)) (some g)) := ⟨grown_trans HG.out hG2⟩
   clear hB2 hG2
   go_wp2
   go_roundg (n - (i + 1))
   case measure => have := HM.out; omega
   case rel => exact ⟨i + 1, l.set i 238, by go_num, by omega, ⟨Nat.le_refl _⟩, ⟨by rw [List.length_set]; exact HL.out⟩, HB2, HG2⟩
  ·obtain rfl : i = n := by omega
   have n3 : decide (i < i) = false := by simp
   obtain ⟨V6, hV6⟩ : ∃ V6 : World, V6 = wr := ⟨_, rfl⟩
   subst hV6
   go_wp2
   clear n3
   go_loopg [13] 80 (fun kq s13 w3 => ∃ (j : Nat), s13 = .int .i64 j ∧ j ≤ 80 ∧ Aside0 (80 - j ≤ kq) ∧ Aside0 (Buf True w3 V1.heap.size (.slice Ab i cb) l) ∧ Aside0 (W5.grownBy w3 (Value.slice Ab i cb).ownBlock))
   case atStart => exact ⟨0, rfl, Nat.zero_le _, ⟨Nat.le_refl _⟩, HB, HG⟩
   case round =>
    clear HM HB HG
    obtain ⟨j, rfl, hj, HM, HB, HG⟩ := hrel
    by_cases hjl : j < 80
    ·have n3 : decide ((j : Int) < 80) = true := by simp; omega
     have n3' : decide (j < 80) = true := by simpa using hjl
     go_wp2_with (first | ((with_reducible refine gate_builtin (b := .append) (xs := #[.tmp 72, .tmp 73]) rfl ?_); at_builtin; (refine wp_buf_keep (b0 := V1.heap.size) rfl (.tmp 72) (.tmp 73) rfl (xs := [221, 221]) rfl rfl rfl (HB.out.fr ((Fr.refl _ _).alloc _)) (Nat.le_trans HV5.out.size (Nat.le_trans HG.out.size (by simp))) (two_C _) (by rw [HL.out]; simp; omega) ?_; intro v2 w2 hB2 hG2; have HB2 := AsM hB2; have HG2 := AsM (grown_trans HG.out (grown_trans (grown_fr ((Fr.refl _ _).alloc _) _) hG2)); clear hB2 hG2)))
     go_roundg (80 - (j + 1))
     case measure => have := HM.out; omega
     case rel => exact ⟨j + 1, by go_num, by omega, ⟨Nat.le_refl _⟩, HB2, HG2⟩
    ·obtain rfl : j = 80 := by omega
     obtain ⟨W6, hW6⟩ : ∃ W6 : World, W6 = wr := ⟨_, rfl⟩
     subst hW6
     have hne : ∀ k, W2.heap.size ≤ k → some k ≠ (Value.slice Ab i cb).ownBlock := fun k hk e => by have := HBL.out k e.symm; omega
     have HV6 : Aside0 (Fr V1 W6 []) := ⟨fr_grown2 HV5.out HG.out HBU.out⟩
     have HBd6 : Buf True W6 W2.heap.size vW3 rl := HBd5.out.move (fun k hk hk2 _ => HG.out.block k hk2 (hne k hk))
     have HBc6 : Buf True W6 W3.heap.size vW4 rl := HBc5.out.move (fun k hk hk2 _ => HG.out.block k hk2 (hne k (Nat.le_trans F23.out.size hk)))
     have cvd := HST.out _ _ _ HBd6
     have cvc := HST.out _ _ _ HBc6
     have HF6 : Aside0 (Fr w W6 []) := ⟨F01.out.tr HV6.out⟩
     have HS6 := AsM (HV6.out.bl HSV0.out)
     have HQ6 := AsM (HV6.out.bl HQV0.out)
     have HY6 := AsM (HYV0.out.fr HV6.out)
     clear HB HG HBd6 HBc6 HBd5 HBc5 HBb5 hne
     obtain ⟨q60, q61, q62, q63, q64, q65⟩ := cc6 HQ6.out
     obtain ⟨s60, s61, s62, s63, s64, s65⟩ := cc6 HS6.out
     have lq6 := blk_lt HQ6.out
     have ls6 := blk_lt HS6.out
     go_wp2_with (first
      | (go_at_call 8; ((with_reducible refine (CM.out _ _ _ _ _ HF6.out HY6.out).mono ?_); rintro e W7 ⟨rfl, hF⟩; have HF7 := AsM (HF6.out.tr hF); clear hF)))
     go_ret
     exact ⟨rfl, HF7.out.below⟩
end Go.Proofs.YtpoehkacfmljcaaGreatDoor.H
