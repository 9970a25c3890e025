/- The reference's Canon: printed by mkRM.py. -/
import Derived.Test.YtpoehkacfmljcaaGreatDoorZV
import Derived.Test.YtpoehkacfmljcaaGreatDoorZRJ
import Derived.Test.YtpoehkacfmljcaaGreatDoorZHY
import Derived.Test.YtpoehkacfmljcaaGreatDoorZKB
import Derived.Test.YtpoehkacfmljcaaGreatDoorZRG
set_option maxHeartbeats 4000000
set_option maxRecDepth 100000
namespace Go.Proofs.YtpoehkacfmljcaaGreatDoor.H
open Go.RowKit Go.Proofs.YtpoehkacfmljcaaGreatDoorW.PrintWords Go.Proofs.YtpoehkacfmljcaaGreatDoorW.PrintLast Go.Proofs.YtpoehkacfmljcaaGreatDoorW.PrintMore
open Go.ChangeMaps (setBlock)
attribute [local go_sem] max2_int min2_int max_two min_two max_three min_three max_four min_four
set_option linter.unusedVariables false
set_option linter.unusedSimpArgs false
open Go.Proofs.YtpoehkacfmljcaaGreatDoor.M
def rDays (hor cel slo : Int) : List S54 → Int → Int → BL → Option (Int × BL)
 | [], cnt, _, b => some (cnt, b)
 | s :: rest, cnt, last, b => if (dayU cel slo s.f1 b).1 = false then none else if withinB s.f0 hor = false then none else if s.f0 ≤ last then none else rDays hor cel slo rest (cnt + s.f1.length) s.f0 (dayU cel slo s.f1 b).2
theorem rDays_ge (hor cel slo : Int) : ∀ (l : List S54) (cnt last : Int) (b : BL) (r : Int × BL), rDays hor cel slo l cnt last b = some r → cnt ≤ r.1
 | [], cnt, last, b, r, h => by simp only [rDays, Option.some.injEq] at h; rw [← h]; exact Int.le_refl _
 | s :: rest, cnt, last, b, r, h => by
  simp only [rDays] at h
  split at h
  ·cases h
  split at h
  ·cases h
  split at h
  ·cases h
  have := rDays_ge hor cel slo rest _ _ _ _ h
  omega
theorem rDays_eq (hor cel slo : Int) : ∀ (l : List S54) (cnt last : Int) (b : BL), cnt ≤ 262144 → -1 ≤ last → canonDays hor cel slo l cnt last b = (rDays hor cel slo l cnt last b).bind fun r => if 262144 < r.1 then none else some r.2
 | [], cnt, last, b, h, _ => by simp only [canonDays, rDays, Option.bind_some]; rw [if_neg (by omega)]
 | s :: rest, cnt, last, b, h, hl => by
  by_cases t0 : (dayU cel slo s.f1 b).1 = false
  ·simp only [rDays, canonDays]; rw [if_pos t0, if_pos t0]; simp
  by_cases t1 : s.f0 ≤ last
  ·simp only [rDays, canonDays]; rw [if_pos t1, if_pos t1]; simp
  by_cases t2 : hor < s.f0
  ·have : withinB s.f0 hor = false := by unfold withinB; simp; omega
   simp only [rDays, canonDays]; rw [if_neg t1, if_pos t2, if_neg t0, if_pos this]; simp
  have hw : ¬ withinB s.f0 hor = false := by unfold withinB; simp; omega
  simp only [rDays, canonDays]
  rw [if_neg t1, if_neg t2, if_neg t0, if_neg t0, if_neg hw, if_neg t1]
  by_cases t3 : 262144 < cnt + s.f1.length
  ·rw [if_pos t3]
   cases hr : rDays hor cel slo rest (cnt + s.f1.length) s.f0 (dayU cel slo s.f1 b).2 with
   | none => rfl
   | some r =>
    have := rDays_ge _ _ _ _ _ _ _ _ hr
    simp only [Option.bind_some]
    rw [if_pos (by omega)]
  ·rw [if_neg t3]
   exact rDays_eq hor cel slo rest _ _ _ (by omega) (by omega)
theorem rcanon_none {names curs : List ByteArray} {pool : List Int} {hor cel slo sta : Int} {days : List S54} {R : Option (Int × BL)} (hl : listsB names curs pool hor cel slo sta = true) (h : rDays hor cel slo days 0 (-1) (bl0 names curs pool) = R) (hn : R = none) : canonP names curs pool hor cel slo sta days = 121 := by
 unfold canonP
 rw [if_neg (by rw [hl]; decide), rDays_eq _ _ _ _ _ _ _ (by omega) (by omega), h, hn]
 rfl
theorem rcanon_some {names curs : List ByteArray} {pool : List Int} {hor cel slo sta : Int} {days : List S54} {cnt : Int} {b : BL} (hl : listsB names curs pool hor cel slo sta = true) (h : rDays hor cel slo days 0 (-1) (bl0 names curs pool) = some (cnt, b)) : canonP names curs pool hor cel slo sta days = if b.1.contains false = true ∨ b.2.1.contains false = true ∨ b.2.2.contains false = true ∨ 262144 < cnt then 121 else 0 := by
 unfold canonP
 rw [if_neg (by rw [hl]; decide), rDays_eq _ _ _ _ _ _ _ (by omega) (by omega), h]
 simp only [Option.bind_some]
 by_cases t : 262144 < cnt
 ·rw [if_pos t, if_pos (.inr (.inr (.inr t)))]
 rw [if_neg t]
 simp only
 by_cases t1 : b.1.contains false = true
 ·rw [if_pos t1, if_pos (.inl t1)]
 rw [if_neg t1]
 by_cases t2 : b.2.1.contains false = true
 ·rw [if_pos t2, if_pos (.inr (.inl t2))]
 rw [if_neg t2]
 by_cases t3 : b.2.2.contains false = true
 ·rw [if_pos t3, if_pos (.inr (.inr (.inl t3)))]
 rw [if_neg t3, if_neg (by simp only [not_or]; exact ⟨t1, t2, t3, t⟩)]
theorem fl_any (l : List Int) : (l.any fun x => decide (x = 0)) = (fl l).contains false := by
 induction l with
 | nil => rfl
 | cons a l ih => simp only [List.any_cons, ih, fl, List.map_cons, List.contains_cons]; by_cases h : a = 0 <;> simp [h]
theorem fl_rep (n : Nat) : fl (List.replicate n 0) = List.replicate n false := by simp [fl]
theorem le_rep (n : Nat) : ∀ x ∈ List.replicate n (0 : Int), 0 ≤ x ∧ x ≤ 0 := fun x hx => by
 have := List.eq_of_mem_replicate hx
 omega
theorem icells_C {w : World} {g : Nat} {l : List Int} {T : Nat} (h : w.heap[g]? = some (.cells (icells l) T (0, 0))) (hl : l.length ≤ 1000000) : (Kd.int .i64).C w (some ⟨g, 0, none⟩) l.length l := by
 obtain ⟨A, c, e, _, hC⟩ := C_of_own (d := Kd.int .i64) (b := 0) (e := T) (v := .slice (some ⟨g, 0, none⟩) l.length l.length) (xs := l) (n := l.length) (vals := l.map (Value.int .i64)) ⟨by simp [Kd.int, Kd.scalar], .inr ⟨g, l.length, icells l, rfl, Nat.zero_le _, h, Nat.le_refl _, by simp only [maxLen]; omega, by simp [icells, Kd.int, Kd.scalar], by simp only [icells, Kd.int, Kd.scalar, Nat.mul_one]; exact List.take_of_length_le (by simp)⟩⟩ (reps_ints w l) rfl
 cases e
 exact hC
theorem mk_runI (n : Nat) (hn : n ≤ 1000000) (W : World) : (Instr.makeSlice 23 (.int .i64 n) (.int .i64 n)).run Tryz.prog W = .ok (.slice (some ⟨W.heap.size, 0, none⟩) n n) (W.alloc (.cells (icells (List.replicate n 0)) 3)) := by
 obtain ⟨i0, hi0, hz0, hz1, hz2⟩ := info_parts info3
 have hr := run_make (P := Tryz.prog) W 23 3 i0 (.int .i64 0) Tryz.underlying23 hi0 hz0 .i64 .i64 (n : Int) (n : Int) (by omega) (by omega) (by rw [hz2]; omega) (by omega)
 simp only [Int.toNat_natCast, hz1, Nat.mul_one] at hr
 have hm : madeCells (Value.int .i64 0).cells n = icells (List.replicate n 0) := by
  apply Array.ext
  ·simp [madeCells, icells]
  ·intro i h1 h2
   simp [madeCells, icells, Value.cells, Nat.mod_one]
 rw [hm] at hr
 exact hr
theorem CntB.fr {nn nc np u g1 g2 g3 : Nat} {b : BL} {M : Int} {w w' : World} (h : CntB nn nc np u g1 g2 g3 b M w) (hf : Fr w w' []) : CntB nn nc np u g1 g2 g3 b M w' := by
 obtain ⟨cn, cc, cp, hc, h⟩ := h
 exact ⟨cn, cc, cp, hc.fr hf, h⟩
theorem day_before {days : List S54} {d : Nat} (h : d < days.length) : days.drop d = days.getD d z54 :: days.drop (d + 1) := by
 rw [List.drop_eq_getElem_cons h, List.getD_eq_getElem?_getD, List.getElem?_eq_getElem h]
 rfl
theorem rCanon_calls (A0 : Option Addr) (c0 : Nat) (names : List ByteArray) (A1 : Option Addr) (c1 : Nat) (curs : List ByteArray) (A2 : Option Addr) (c2 : Nat) (pool : List Int) (hor cel slo sta : Int) (A7 : Option Addr) (c7 : Nat) (days : List S54) (w : World) (hr0 : Kd.C Kd.string w A0 names.length names) (hc0 : names.length ≤ c0) (hr1 : Kd.C Kd.string w A1 curs.length curs) (hc1 : curs.length ≤ c1) (hr2 : Kd.C (Kd.int .i64) w A2 pool.length pool) (hr7 : Kd.C k54 w A7 days.length days) (hc7 : days.length ≤ c7) (hdl : ∀ s ∈ days, s.f1.length ≤ 10000000000000) (hsz : ∀ s ∈ names, s.size ≤ 9223372036854775806) (G : TabW w) :
  Calls Tryz.prog 75 #[.agg #[.slice A0 names.length c0, .slice A1 curs.length c1, .slice A2 pool.length c2, .int .i64 hor, .int .i64 cel, .int .i64 slo, .int .i64 sta, .slice A7 days.length c7]] w (CanonPost (canonP names curs pool hor cel slo sta days) w) := by
 obtain ⟨bL, hL⟩ : ∃ b, listsB names curs pool hor cel slo sta = b := ⟨_, rfl⟩
 have LC : Aside0 (∀ W, Fr w W [] → Calls Tryz.prog 105 #[.agg #[.slice A0 names.length c0, .slice A1 curs.length c1, .slice A2 pool.length c2, .int .i64 hor, .int .i64 cel, .int .i64 slo, .int .i64 sta, .slice A7 days.length c7]] W (MayPost bL W)) := ⟨fun W h => hL ▸ rLists_calls A0 c0 names A1 c1 curs A2 c2 pool hor cel slo sta _ W (Kd.C_below hr0 h.below) hc0 (Kd.C_below hr1 h.below) hc1 (Kd.C_below hr2 h.below) hsz⟩
 have HC7 := AsM hr7
 have hd63 := Kd.C_max hr7
 have HG := AsM G
 have HDL := AsM hdl
 have hup := Tryz.underlying26
 clear hr0 hr1 hr2 hr7 G hdl hsz
 have HLB := AsM hL
 clear hL
 cases bL
 ·have HCP : Aside0 (canonP names curs pool hor cel slo sta days = 121) := ⟨by unfold canonP; rw [if_pos HLB.out]⟩
  rw [HCP.out]
  go_enter Tryz.func75, Tryz.ntmps75
  go_wp2_with (first | (go_at_call 105; (with_reducible refine (LC.out _ ?_).mono ?_); (next => exact FQ); rintro e W1 ⟨rfl, hF1⟩))
  go_ret
  exact ⟨rfl, Fr.trans (M := []) FQ hF1 (by simp)⟩
 have hlf := lists_facts HLB.out
 obtain ⟨hl1, hl2, hl3, hh0, hh1, -⟩ := hlf
 go_enter Tryz.func75, Tryz.ntmps75
 go_upto_region 4 with (first | (go_at_call 105; (with_reducible refine (LC.out _ ?_).mono ?_); (next => exact FQ); rintro e W1 ⟨rfl, hF1⟩; have HB1 := AsM (hF1.blk (g := w.heap.size) (blk_newN rfl) (by simp)); have HF1 : Aside0 (Fr w W1 []) := ⟨Fr.trans (M := []) FQ hF1 (by simp)⟩; clear hF1))
 go_cut [4] (fun x wx => ∃ u g1 g2 g3 : Nat, x = .pointer (some ⟨u, 0, none⟩) ∧ Aside0 (Fr w wx []) ∧ Aside0 (wx.heap[w.heap.size]? = some (.cells #[.slice A0 names.length c0, .slice A1 curs.length c1, .slice A2 pool.length c2, .int .i64 hor, .int .i64 cel, .int .i64 slo, .int .i64 sta, .slice A7 days.length c7] 26 (0, 0))) ∧ Aside0 (CntB names.length curs.length pool.length u g1 g2 g3 (bl0 names curs pool) 0 wx) ∧ w.heap.size < g1 ∧ w.heap.size < g2 ∧ w.heap.size < g3)
 case first =>
  have mk1 := mk_runI names.length (by omega)
  have mk2 := mk_runI curs.length (by omega)
  have mk3 := mk_runI pool.length (by omega)
  have hb0 : W1.cell? ⟨w.heap.size, 0, none⟩ = some (.slice A0 names.length c0) := blk_cell HB1.out 0
  have hb1 : W1.cell? ⟨w.heap.size, 1, none⟩ = some (.slice A1 curs.length c1) := blk_cell HB1.out 1
  have hb2 : W1.cell? ⟨w.heap.size, 2, none⟩ = some (.slice A2 pool.length c2) := blk_cell HB1.out 2
  have hbl := blk_lt HB1.out
  go_region_held3 (fun w' => w'.cell? ⟨w.heap.size, 0, none⟩ = some (.slice A0 names.length c0) ∧ w'.cell? ⟨w.heap.size, 1, none⟩ = some (.slice A1 curs.length c1) ∧ w'.cell? ⟨w.heap.size, 2, none⟩ = some (.slice A2 pool.length c2)) (first | (refine ⟨fr_at (L := []) hb0 ?_ List.not_mem_nil, fr_at (L := []) hb1 ?_ List.not_mem_nil, fr_at (L := []) hb2 ?_ List.not_mem_nil⟩ <;> exact FQ) | go_keep) (fail)
  ·clear mk1 mk2 mk3
   go_wp2
   go_meet
   exact ⟨W1.heap.size + 1 + 1 + 1, W1.heap.size, W1.heap.size + 1, W1.heap.size + 1 + 1, rfl, ⟨FX HF1.out⟩, ⟨by (repeat (first | exact HB1.out | apply blk_drew | apply blk_alloc))⟩, ⟨⟨_, _, _, ⟨by simp only [List.length_replicate]; exact (three _ _ _ _ _).2.2.2, (three _ _ _ _ _).1, (three _ _ _ _ _).2.1, (three _ _ _ _ _).2.2.1, by omega, by omega, by omega⟩, List.length_replicate, List.length_replicate, List.length_replicate, by simp [fl_rep, bl0], le_rep _, le_rep _, le_rep _⟩⟩, by omega, by omega, by omega⟩
  ·clear mk1 mk2 mk3
   go_wp2
   go_meet
   exact ⟨W1.heap.size + 1 + 1 + 1, W1.heap.size, W1.heap.size + 1 + 1, W1.heap.size + 1, rfl, ⟨FX HF1.out⟩, ⟨by (repeat (first | exact HB1.out | apply blk_drew | apply blk_alloc))⟩, ⟨⟨_, _, _, ⟨by simp only [List.length_replicate]; exact (three _ _ _ _ _).2.2.2, (three _ _ _ _ _).1, (three _ _ _ _ _).2.2.1, (three _ _ _ _ _).2.1, by omega, by omega, by omega⟩, List.length_replicate, List.length_replicate, List.length_replicate, by simp [fl_rep, bl0], le_rep _, le_rep _, le_rep _⟩⟩, by omega, by omega, by omega⟩
  ·clear mk1 mk2 mk3
   go_wp2
   go_meet
   exact ⟨W1.heap.size + 1 + 1 + 1, W1.heap.size + 1, W1.heap.size, W1.heap.size + 1 + 1, rfl, ⟨FX HF1.out⟩, ⟨by (repeat (first | exact HB1.out | apply blk_drew | apply blk_alloc))⟩, ⟨⟨_, _, _, ⟨by simp only [List.length_replicate]; exact (three _ _ _ _ _).2.2.2, (three _ _ _ _ _).2.1, (three _ _ _ _ _).1, (three _ _ _ _ _).2.2.1, by omega, by omega, by omega⟩, List.length_replicate, List.length_replicate, List.length_replicate, by simp [fl_rep, bl0], le_rep _, le_rep _, le_rep _⟩⟩, by omega, by omega, by omega⟩
  ·clear mk1 mk2 mk3
   go_wp2
   go_meet
   exact ⟨W1.heap.size + 1 + 1 + 1, W1.heap.size + 1 + 1, W1.heap.size, W1.heap.size + 1, rfl, ⟨FX HF1.out⟩, ⟨by (repeat (first | exact HB1.out | apply blk_drew | apply blk_alloc))⟩, ⟨⟨_, _, _, ⟨by simp only [List.length_replicate]; exact (three _ _ _ _ _).2.2.2, (three _ _ _ _ _).2.2.1, (three _ _ _ _ _).1, (three _ _ _ _ _).2.1, by omega, by omega, by omega⟩, List.length_replicate, List.length_replicate, List.length_replicate, by simp [fl_rep, bl0], le_rep _, le_rep _, le_rep _⟩⟩, by omega, by omega, by omega⟩
  ·clear mk1 mk2 mk3
   go_wp2
   go_meet
   exact ⟨W1.heap.size + 1 + 1 + 1, W1.heap.size + 1, W1.heap.size + 1 + 1, W1.heap.size, rfl, ⟨FX HF1.out⟩, ⟨by (repeat (first | exact HB1.out | apply blk_drew | apply blk_alloc))⟩, ⟨⟨_, _, _, ⟨by simp only [List.length_replicate]; exact (three _ _ _ _ _).2.2.2, (three _ _ _ _ _).2.1, (three _ _ _ _ _).2.2.1, (three _ _ _ _ _).1, by omega, by omega, by omega⟩, List.length_replicate, List.length_replicate, List.length_replicate, by simp [fl_rep, bl0], le_rep _, le_rep _, le_rep _⟩⟩, by omega, by omega, by omega⟩
  ·clear mk1 mk2 mk3
   go_wp2
   go_meet
   exact ⟨W1.heap.size + 1 + 1 + 1, W1.heap.size + 1 + 1, W1.heap.size + 1, W1.heap.size, rfl, ⟨FX HF1.out⟩, ⟨by (repeat (first | exact HB1.out | apply blk_drew | apply blk_alloc))⟩, ⟨⟨_, _, _, ⟨by simp only [List.length_replicate]; exact (three _ _ _ _ _).2.2.2, (three _ _ _ _ _).2.2.1, (three _ _ _ _ _).2.1, (three _ _ _ _ _).1, by omega, by omega, by omega⟩, List.length_replicate, List.length_replicate, List.length_replicate, by simp [fl_rep, bl0], le_rep _, le_rep _, le_rep _⟩⟩, by omega, by omega, by omega⟩
 case rest =>
 obtain ⟨u, g1, g2, g3, rfl, HFc, HBc, HUc, hg1, hg2, hg3⟩ := hcut
 have HGE : Aside0 (w.heap.size ≤ g1 ∧ w.heap.size ≤ g2 ∧ w.heap.size ≤ g3) := ⟨by omega⟩
 go_wp2
 go_loopg [3, 5, 6, 7, 8] days.length (fun kq s3 s5 x s7 s8 wr => ∃ (d : Nat) (cnt last : Int) (b : BL), s5 = .int .i64 cnt ∧ x = .int .i64 d ∧ d ≤ days.length ∧ 0 ≤ cnt ∧ cnt ≤ (d : Int) * 10000000000000 ∧ (d : Int) ≤ last + 1 ∧ last ≤ hor ∧ -1 ≤ last ∧ Aside0 (days.length - d ≤ kq) ∧ Aside0 (Fr w wr []) ∧ Aside0 (wr.heap[w.heap.size]? = some (.cells #[.slice A0 names.length c0, .slice A1 curs.length c1, .slice A2 pool.length c2, .int .i64 hor, .int .i64 cel, .int .i64 slo, .int .i64 sta, .slice A7 days.length c7] 26 (0, 0))) ∧ Aside0 (CntB names.length curs.length pool.length u g1 g2 g3 b cnt wr) ∧ Aside0 (0 < d → (days.getD (d - 1) z54).f0 = last) ∧ Aside0 (d = 0 → last = -1) ∧ Aside0 (rDays hor cel slo days 0 (-1) (bl0 names curs pool) = rDays hor cel slo (days.drop d) cnt last b))
 case atStart => exact ⟨0, 0, -1, bl0 names curs pool, rfl, rfl, Nat.zero_le _, by omega, by omega, by omega, by omega, by omega, ⟨Nat.le_refl _⟩, HFc, HBc, HUc, ⟨fun h => by omega⟩, ⟨fun _ => rfl⟩, ⟨rfl⟩⟩
 case round =>
  clear HFc HBc HUc
  obtain ⟨d, cnt, last, b, rfl, rfl, hd, hc0', hc1', hl0, hl4, hl5, HM, HF, HB, HU, HLA, HL0, HSP⟩ := hrel
  by_cases hdl : d < days.length
  ·have n3 : decide (d < days.length) = true := by simpa using hdl
   obtain ⟨ad, A8, c8, rfl, h0, h1, hcap, hC1⟩ := day_at HC7.out d hdl
   obtain ⟨sg, hsg⟩ : ∃ sg, days.getD d z54 = sg := ⟨_, rfl⟩
   have hdr := day_before hdl
   rw [hsg] at hdr
   have hcl : sg.f1.length ≤ 10000000000000 := HDL.out _ (by rw [← hsg, List.getD_eq_getElem?_getD, List.getElem?_eq_getElem hdl]; exact List.getElem_mem _)
   have HSG := AsM hsg
   rw [hsg] at h0 h1 hcap hC1
   obtain ⟨day, code⟩ := sg
   simp only at h0 h1 hcap hC1 hcl
   have hsp := HSP.out
   rw [hdr] at hsp
   simp only [rDays] at hsp
   obtain ⟨rb, b2, hR⟩ : ∃ rb b2, dayU cel slo code b = (rb, b2) := ⟨_, _, rfl⟩
   rw [hR] at hsp
   simp only at hsp
   have HSQ := AsM hsp
   have HDU := AsM hR
   have HAD := AsM h0
   have q0 := fr_at h0 HF.out (by simp)
   have q1 := fr_at h1 HF.out (by simp)
   have HCC := AsM hC1
   have hbl := blk_lt HB.out
   have hut := Tryz.underlying54
   have HCM : Aside0 (cnt ≤ 100000000000000000 ∧ code.length ≤ 10000000000000 ∧ 0 ≤ cnt ∧ cnt + code.length ≤ ((d + 1 : Nat) : Int) * 10000000000000) := ⟨by refine ⟨by omega, hcl, hc0', by push_cast; omega⟩⟩
   have hcw : IntKind.i64.wrap (cnt + (code.length : Int)) = cnt + (code.length : Int) := by rw [i64_w]; have := HCM.out; unfold wrap64; omega
   clear h0 h1 hsg hC1 hdr hsp hR HSP hcl hc0' hc1'
   have v0 : wr.cell? ⟨w.heap.size, 0, none⟩ = some (.slice A0 names.length c0) := blk_cell HB.out 0
   have v1 : wr.cell? ⟨w.heap.size, 1, none⟩ = some (.slice A1 curs.length c1) := blk_cell HB.out 1
   have v2 : wr.cell? ⟨w.heap.size, 2, none⟩ = some (.slice A2 pool.length c2) := blk_cell HB.out 2
   have v3 : wr.cell? ⟨w.heap.size, 3, none⟩ = some (.int .i64 hor) := blk_cell HB.out 3
   have v4 : wr.cell? ⟨w.heap.size, 4, none⟩ = some (.int .i64 cel) := blk_cell HB.out 4
   have v5 : wr.cell? ⟨w.heap.size, 5, none⟩ = some (.int .i64 slo) := blk_cell HB.out 5
   have v6 : wr.cell? ⟨w.heap.size, 6, none⟩ = some (.int .i64 sta) := blk_cell HB.out 6
   have v7 : wr.cell? ⟨w.heap.size, 7, none⟩ = some (.slice (some ad) days.length c7) := blk_cell HB.out 7
   go_upto_region 10 with fail
   refine name_ (fun V => Aside0 (Fr wr V []) ∧ Aside0 (V.heap[wr.heap.size]? = some (.cells #[.int .i64 day, .slice A8 code.length c8] 54 (0, 0)))) ⟨⟨FQ⟩, ⟨blk_newN rfl⟩⟩ ?_
   rintro V ⟨HVF, HVX⟩
   have HVB : Aside0 (V.heap[w.heap.size]? = some (.cells #[.slice A0 names.length c0, .slice A1 curs.length c1, .slice A2 pool.length c2, .int .i64 hor, .int .i64 cel, .int .i64 slo, .int .i64 sta, .slice (some ad) days.length c7] 26 (0, 0))) := ⟨HVF.out.blk HB.out (by simp)⟩
   clear v0 v1 v2 v3 v4 v5 v6 v7 q0 q1
   have v0 : V.cell? ⟨w.heap.size, 0, none⟩ = some (.slice A0 names.length c0) := blk_cell HVB.out 0
   have v1 : V.cell? ⟨w.heap.size, 1, none⟩ = some (.slice A1 curs.length c1) := blk_cell HVB.out 1
   have v2 : V.cell? ⟨w.heap.size, 2, none⟩ = some (.slice A2 pool.length c2) := blk_cell HVB.out 2
   have v3 : V.cell? ⟨w.heap.size, 3, none⟩ = some (.int .i64 hor) := blk_cell HVB.out 3
   have v4 : V.cell? ⟨w.heap.size, 4, none⟩ = some (.int .i64 cel) := blk_cell HVB.out 4
   have v5 : V.cell? ⟨w.heap.size, 5, none⟩ = some (.int .i64 slo) := blk_cell HVB.out 5
   have v6 : V.cell? ⟨w.heap.size, 6, none⟩ = some (.int .i64 sta) := blk_cell HVB.out 6
   have v7 : V.cell? ⟨w.heap.size, 7, none⟩ = some (.slice (some ad) days.length c7) := blk_cell HVB.out 7
   have q1 : V.cell? ⟨wr.heap.size, 1, none⟩ = some (.slice A8 code.length c8) := blk_cell HVX.out 1
   have hvl := blk_lt HVB.out
   have hvl2 := blk_lt HVX.out
   go_upto_region 11 with (first | (go_at_call 106; (refine (code_calls w A0 names.length c0 A1 curs.length c1 A2 pool.length c2 hor cel slo sta _ A8 c8 code u g1 g2 g3 b cnt V HCM.out.2.2.1 HCM.out.1 HCC.out (HF.out.trans HVF.out (by simp)) HGE.out HCM.out.2.1 (HU.out.fr HVF.out) HG.out).mono ?_); rw [HDU.out]; rintro e W2 ⟨rfl, hF2, hB2⟩; have HF2 := AsM hF2; have HB2 := AsM hB2; have hno : (∀ i, i ∈ [g1, g2, g3] → i < wr.heap.size ∧ i ≠ w.heap.size) := (by obtain ⟨cn, cc, cp, hc, _⟩ := HU.out; have h7 := blk_lt hc.n1; have h8 := blk_lt hc.n2; have h9 := blk_lt hc.n3; simp; omega); have HNO := AsM hno; have HX2 : Aside0 (W2.heap[wr.heap.size]? = some (.cells #[.int .i64 day, .slice A8 code.length c8] 54 (0, 0))) := ⟨hF2.blk HVX.out (fun h => by have := hno _ h; omega)⟩; have HX3 : Aside0 (W2.heap[w.heap.size]? = some (.cells #[.slice A0 names.length c0, .slice A1 curs.length c1, .slice A2 pool.length c2, .int .i64 hor, .int .i64 cel, .int .i64 slo, .int .i64 sta, .slice (some ad) days.length c7] 26 (0, 0))) := ⟨hF2.blk HVB.out (fun h => (hno _ h).2 rfl)⟩; clear hF2 hB2 hno))
   clear v0 v1 v2 v3 v4 v5 v6 v7 q1
   have v3 : W2.cell? ⟨w.heap.size, 3, none⟩ = some (.int .i64 hor) := blk_cell HX3.out 3
   have v7 : W2.cell? ⟨w.heap.size, 7, none⟩ = some (.slice (some ad) days.length c7) := blk_cell HX3.out 7
   have q0 : W2.cell? ⟨wr.heap.size, 0, none⟩ = some (.int .i64 day) := blk_cell HX2.out 0
   have q1 : W2.cell? ⟨wr.heap.size, 1, none⟩ = some (.slice A8 code.length c8) := blk_cell HX2.out 1
   have hwl := blk_lt HX3.out
   have hwl2 := blk_lt HX2.out
   have HWF : Aside0 (Fr w W2 []) := ⟨(HF.out.trans HVF.out (by simp)).trans HF2.out (fun i hi => .inr (by have := HGE.out; simp at hi; omega))⟩
   obtain ⟨bw, hbw⟩ : ∃ x, withinB day hor = x := ⟨_, rfl⟩
   have HBW := AsM hbw
   have hsq := HSQ.out
   rw [hbw] at hsq
   have HSR := AsM hsq
   clear hbw hsq HSQ
   cases rb
   case false =>
    have HN := AsM (rcanon_none HLB.out HSR.out (if_pos rfl))
    go_upto_region 12 with (first | (go_at_call 107; (with_reducible refine (rWithin12_calls day hor bw HBW.out _).mono ?_); rintro e W9 ⟨rfl, ⟨n9, rfl⟩⟩))
    go_quiet (fail)
    go_wp2
    go_ret
    exact canon_end HN.out (FX HWF.out)
   cases bw
   case true.false =>
    have HN := AsM (rcanon_none HLB.out HSR.out (by rw [if_neg (by decide), if_pos rfl]))
    go_upto_region 12 with (first | (go_at_call 107; (with_reducible refine (rWithin12_calls day hor false HBW.out _).mono ?_); rintro e W9 ⟨rfl, ⟨n9, rfl⟩⟩))
    go_quiet (fail)
    go_wp2
    go_ret
    exact canon_end HN.out (FX HWF.out)
   have hsr := HSR.out
   rw [if_neg (by decide), if_neg (by decide)] at hsr
   have HST := AsM hsr
   have hwi := HBW.out
   simp only [withinB, Bool.and_eq_true, decide_eq_true_eq] at hwi
   obtain ⟨hw0, hw1⟩ := hwi
   clear HSR hsr
   rcases d with _ | j
   ·have hlm := HL0.out rfl
    rw [if_neg (by omega)] at HST
    go_upto_region 12 with (first | (go_at_call 107; (with_reducible refine (rWithin12_calls day hor true HBW.out _).mono ?_); rintro e W9 ⟨rfl, ⟨n9, rfl⟩⟩))
    go_quiet (fail)
    go_wp2
    go_roundg (days.length - 1)
    case measure => have := HM.out; omega
    case rel =>
     exact ⟨1, cnt + code.length, day, b2, rfl, by go_num, by omega, by have := HCM.out; omega, by have := HCM.out; omega, by omega, hw1, by omega, ⟨Nat.le_refl _⟩, ⟨FX HWF.out⟩, HX3, ⟨(HB2.out (by first | rfl | trivial)).fr ((Fr.refl _ []).drewN _)⟩, ⟨fun _ => by show (days.getD 0 _).f0 = day; rw [HSG.out]⟩, ⟨fun h => by omega⟩, HST⟩
   ·have p3 : IntKind.i64.wrap (((j + 1 : Nat) : Int) - 1) = (j : Int) := by rw [i64_w]; unfold wrap64; omega
    have p4 : IntKind.i64.wrap (j : Int) = j := by rw [IntKind.wrap_i64]; omega
    have q5 : (0 : Int) ≤ (j : Int) := by omega
    have q6 : (j : Int) < days.length := by omega
    obtain ⟨ad2, A9, c9, he, k0, -⟩ := day_at HC7.out j (by omega)
    cases he
    have k0 := fr_at k0 HWF.out (by simp)
    have hla : (days.getD j z54).f0 = last := HLA.out (by omega)
    rw [hla] at k0
    clear hla
    go_upto_region 12 with (first | (go_at_call 107; (with_reducible refine (rWithin12_calls day hor true HBW.out _).mono ?_); rintro e W9 ⟨rfl, ⟨n9, rfl⟩⟩))
    by_cases t1 : day ≤ last
    ·have HN := AsM (rcanon_none HLB.out HST.out (if_pos t1))
     have n5 : decide (day ≤ last) = true := by simpa using t1
     go_quiet (fail)
     go_wp2
     go_ret
     exact canon_end HN.out (FX HWF.out)
    ·have hst := HST.out
     rw [if_neg t1] at hst
     have HSU := AsM hst
     clear hst HST
     have n5 : decide (day ≤ last) = false := by simpa using t1
     go_quiet (fail)
     go_wp2
     go_roundg (days.length - (j + 1 + 1))
     case measure => have := HM.out; omega
     case rel =>
      exact ⟨j + 1 + 1, cnt + code.length, day, b2, rfl, by go_num, by omega, by have := HCM.out; omega, by have := HCM.out; omega, by omega, hw1, by omega, ⟨Nat.le_refl _⟩, ⟨FX HWF.out⟩, HX3, ⟨(HB2.out (by first | rfl | trivial)).fr ((Fr.refl _ []).drewN _)⟩, ⟨fun _ => by show (days.getD (j + 1) _).f0 = day; rw [HSG.out]⟩, ⟨fun h => by omega⟩, HSU⟩
  ·obtain rfl : d = days.length := by omega
   have n3 : decide (days.length < days.length) = false := by simp
   have hsp := HSP.out
   rw [List.drop_length] at hsp
   simp only [rDays] at hsp
   have hcs := rcanon_some HLB.out hsp
   obtain ⟨cn, cc, cp, hcn, hk1, hk2, hk3, rfl, -⟩ := HU.out
   simp only [← fl_any] at hcs
   obtain ⟨q1, hq1⟩ : ∃ q, cn.any (fun x => decide (x = 0)) = q := ⟨_, rfl⟩
   obtain ⟨q2, hq2⟩ : ∃ q, cc.any (fun x => decide (x = 0)) = q := ⟨_, rfl⟩
   obtain ⟨q3, hq3⟩ : ∃ q, cp.any (fun x => decide (x = 0)) = q := ⟨_, rfl⟩
   obtain ⟨q4, hq4⟩ : ∃ q, decide ((262144 : Int) < cnt) = q := ⟨_, rfl⟩
   have hq4' : (262144 < cnt) = (q4 = true) := by rw [← hq4]; simp
   simp only [hq1, hq2, hq3, hq4'] at hcs
   have HCS := AsM hcs
   have C1 := AsM (fun W (h : Fr wr W []) => hq1 ▸ none_calls (some ⟨g1, 0, none⟩) cn.length cn W (icells_C (h.blk hcn.n1 (by simp)) (by omega)))
   have C2 := AsM (fun W (h : Fr wr W []) => hq2 ▸ none_calls (some ⟨g2, 0, none⟩) cc.length cc W (icells_C (h.blk hcn.n2 (by simp)) (by omega)))
   have C3 := AsM (fun W (h : Fr wr W []) => hq3 ▸ none_calls (some ⟨g3, 0, none⟩) cp.length cp W (icells_C (h.blk hcn.n3 (by simp)) (by omega)))
   have u0 : wr.cell? ⟨u, 0, none⟩ = some (.slice (some ⟨g1, 0, none⟩) cn.length cn.length) := blk_cell hcn.blk 0
   have u1 : wr.cell? ⟨u, 1, none⟩ = some (.slice (some ⟨g2, 0, none⟩) cc.length cc.length) := blk_cell hcn.blk 1
   have u2' : wr.cell? ⟨u, 2, none⟩ = some (.slice (some ⟨g3, 0, none⟩) cp.length cp.length) := blk_cell hcn.blk 2
   have hul := blk_lt hcn.blk
   have huu := Tryz.underlying178
   have v7 : wr.cell? ⟨w.heap.size, 7, none⟩ = some (.slice A7 days.length c7) := blk_cell HB.out 7
   have hvl := blk_lt HB.out
   clear hsp hcs hq1 hq2 hq3 hq4' hcn hk1 hk2 hk3 HU HSP HL0 HLA
   cases q1 <;> cases q2 <;> cases q3 <;> cases q4
   all_goals (
    go_wp2_with (first | (go_at_call 108; first | (with_reducible refine (C1.out _ ?_).mono ?_); (next => exact FQ); rintro e W9 ⟨rfl, ⟨n9, rfl⟩⟩ | (with_reducible refine (C2.out _ ?_).mono ?_); (next => exact FQ); rintro e W10 ⟨rfl, ⟨n10, rfl⟩⟩ | (with_reducible refine (C3.out _ ?_).mono ?_); (next => exact FQ); rintro e W11 ⟨rfl, ⟨n11, rfl⟩⟩))
    go_ret
    exact canon_end (by rw [HCS.out]; rfl) (FX HF.out))
def mostR (a b : Int) : Int := if b < a then a else b
def noteR (a : Acc) (x : S113) (h : Nat) : Acc := ⟨mostR a.stack h, wrap64 (a.fuel + 1), if x.f0 = 3 then mostR a.back x.f2 else a.back, if x.f0 = 6 ∨ x.f0 = 7 then mostR a.slots (x.f1 + 1) else a.slots, if x.f0 = 4 ∨ x.f0 = 5 then mostR a.cell (x.f1 + 1) else a.cell⟩
def noteSeg (code : List S113) (l : List RS) : Nat → Nat → Acc → Acc
 | 0, _, acc => acc
 | m + 1, k, acc => noteSeg code l m (k + 1) (noteR acc (code.getD k z113) (l.getD k (false, [], [])).2.1.length)
def refDays : List S54 → Acc → Int × Acc
 | [], acc => (0, acc)
 | s :: rest, acc => if (refSeg s.f1 s.f0 s.f1.length 0 (initR s.f1.length)).1 = 0 then refDays rest (noteSeg s.f1 (refSeg s.f1 s.f0 s.f1.length 0 (initR s.f1.length)).2 s.f1.length 0 acc) else ((refSeg s.f1 s.f0 s.f1.length 0 (initR s.f1.length)).1, acc)
def verifyR (names curs : List ByteArray) (pool : List Int) (hor cel slo sta : Int) (days : List S54) : Int × Acc :=
 if canonP names curs pool hor cel slo sta days ≠ 0 then (canonP names curs pool hor cel slo sta days, acc0) else
 if (refDays days acc0).1 ≠ 0 then refDays days acc0 else
 if sta ≠ (refDays days acc0).2.stack ∨ slo ≠ (refDays days acc0).2.slots ∨ cel ≠ (refDays days acc0).2.cell then (147, (refDays days acc0).2) else (0, (refDays days acc0).2)
def VerRPost (r : Int × Acc) (w : World) (e : Ending) (w' : World) : Prop :=
 ∃ (st : Acc) (d k : Int), e = .returned (.tuple #[.agg #[.int .i64 st.stack, .int .i64 st.fuel, .int .i64 st.back], .int .i64 d, .int .i64 k, .int .i64 r.1]) ∧ Fr w w' [] ∧ (r.1 = 0 → st = r.2)
theorem noteSeg_step {code : List S113} {l : List RS} {k : Nat} {acc : Acc} {x : S113} {v : RS} (hk : k < code.length) (hx : code.getD k z113 = x) (hv : l.getD k (false, [], []) = v) : noteSeg code l (code.length - k) k acc = noteSeg code l (code.length - (k + 1)) (k + 1) (noteR acc x v.2.1.length) := by
 rw [show code.length - k = (code.length - (k + 1)) + 1 by omega]
 simp only [noteSeg]
 rw [hx, hv]
theorem refDays_err {rest : List S54} {day : Int} {code : List S113} {acc : Acc} {e : Int} {l : List RS} (h : refSeg code day code.length 0 (initR code.length) = (e, l)) (he : e ≠ 0) : refDays (⟨day, code⟩ :: rest) acc = (e, acc) := by
 simp only [refDays]
 rw [h, if_neg he]
theorem refDays_on {rest : List S54} {day : Int} {code : List S113} {acc : Acc} {l : List RS} (h : refSeg code day code.length 0 (initR code.length) = (0, l)) : refDays (⟨day, code⟩ :: rest) acc = refDays rest (noteSeg code l code.length 0 acc) := by
 simp only [refDays]
 rw [h, if_pos rfl]
theorem verR_err {r : Int × Acc} {w W : World} {a b c d k err : Int} (h : r.1 = err) (hf : Fr w W []) (hz : err ≠ 0) : VerRPost r w (.returned (.tuple #[.agg #[.int .i64 a, .int .i64 b, .int .i64 c], .int .i64 d, .int .i64 k, .int .i64 err])) W :=
 ⟨⟨a, b, c, 0, 0⟩, d, k, by rw [h], hf, fun h0 => absurd (h ▸ h0) hz⟩
theorem verR_ok {r : Int × Acc} {w W : World} {acc : Acc} {d k : Int} (h : r = (0, acc)) (hf : Fr w W []) : VerRPost r w (.returned (.tuple #[.agg #[.int .i64 acc.stack, .int .i64 acc.fuel, .int .i64 acc.back], .int .i64 d, .int .i64 k, .int .i64 0])) W := by
 subst h
 exact ⟨acc, d, k, rfl, hf, fun _ => rfl⟩
theorem dayRun_end {cel slo : Int} {code : List S113} : ∀ (m k : Nat) (b b' : BL), dayRun cel slo code m k b = (true, b') → ∀ j, k ≤ j → j < k + m → (decide ((code.getD j z113).f0 = 0) != decide (j + 1 = code.length)) = false
 | 0, _, _, _, _ => fun j h1 h2 => by omega
 | m + 1, k, b, b', h => by
  intro j h1 h2
  unfold dayRun at h
  split at h
  ·rename_i h9
   rcases Nat.lt_or_ge k j with h3 | h3
   ·exact dayRun_end m (k + 1) _ b' h j (by omega) (by omega)
   ·obtain rfl : j = k := by omega
    unfold dayStep at h9
    split at h9
    ·exact absurd h9 (by simp)
    ·split at h9
     ·exact absurd h9 (by simp)
     ·rename_i h7; exact Bool.eq_false_iff.2 h7
  ·rename_i h9
   rw [h] at h9
   exact absurd rfl h9
def EndOk (s : S54) : Prop := ∀ (j : Nat) (x : S113), s.f1[j]? = some x → (x.f0 = 0 ↔ j + 1 = s.f1.length)
theorem dayU_end {cel slo : Int} {s : S54} {b : BL} (h : (dayU cel slo s.f1 b).1 = true) : EndOk s := by
 obtain ⟨R, hR⟩ : ∃ R, dayU cel slo s.f1 b = R := ⟨_, rfl⟩
 obtain ⟨rb, b2⟩ := R
 rw [hR] at h
 simp only at h
 subst h
 unfold dayU at hR
 split at hR
 ·exact absurd (congrArg (·.1) hR) (by simp)
 ·intro j x hx
  have hj := (List.getElem?_eq_some_iff.1 hx).1
  have h3 := dayRun_end _ _ _ _ hR j (by omega) (by omega)
  rw [List.getD_eq_getElem?_getD, hx] at h3
  simpa [Bool.beq_eq_decide_eq] using h3
theorem canonDays_end {hor cel slo : Int} : ∀ (days : List S54) (cnt last : Int) (b b' : BL), canonDays hor cel slo days cnt last b = some b' → ∀ s ∈ days, EndOk s
 | [], _, _, _, _, _ => by simp
 | s :: rest, cnt, last, b, b', h => by
  unfold canonDays at h
  split at h
  ·cases h
  split at h
  ·cases h
  split at h
  ·cases h
  split at h
  ·cases h
  rename_i h1 h2 h3 h4
  intro x hx
  rcases List.mem_cons.1 hx with rfl | hx
  ·exact dayU_end (by simpa using h4)
  ·exact canonDays_end rest _ _ _ _ h x hx
theorem canonP_end {names curs : List ByteArray} {pool : List Int} {hor cel slo sta : Int} {days : List S54} (h : canonP names curs pool hor cel slo sta days = 0) : ∀ s ∈ days, EndOk s := by
 unfold canonP at h
 split at h
 ·exact absurd h (by decide)
 split at h
 ·exact absurd h (by decide)
 ·rename_i b hb
  exact canonDays_end _ _ _ _ _ hb
theorem handTo_len (b : RS) (l : List RS) (t : Nat) : (handTo b l t).2.length = l.length := by
 unfold handTo
 split
 ·rfl
 ·exact List.length_set
theorem hand1_len (x : S113) (k : Nat) (b : RS) (l : List RS) : (hand1 x k b l).2.length = l.length := by
 unfold hand1
 split
 ·rfl
 ·exact handTo_len _ _ _
theorem hand2_len (x : S113) (k : Nat) (b : RS) (r : Int × List RS) : (hand2 x k b r).2.length = r.2.length := by
 unfold hand2
 split
 ·rfl
 ·split
  ·exact handTo_len _ _ _
  ·rfl
theorem refStep_len (code : List S113) (day : Int) (k : Nat) (l : List RS) : (refStep code day k l).2.length = l.length := by
 unfold refStep
 simp only
 split
 ·rfl
 ·rw [hand2_len, hand1_len]
theorem refSeg_len (code : List S113) (day : Int) : ∀ (m k : Nat) (l : List RS), (refSeg code day m k l).2.length = l.length
 | 0, _, _ => rfl
 | m + 1, k, l => by
  unfold refSeg
  split
  ·rw [refSeg_len code day m, refStep_len]
  ·exact refStep_len _ _ _ _
theorem initR_len (n : Nat) : (initR n).length = n := by simp [initR]
theorem sget {w : World} {S : Nat} {l : List RV} {ad : Addr} {T : Nat} (h : w.heap[S]? = some (.cells (l.flatMap RV.cells).toArray T (0, 0))) (had : ad = ⟨S, 0, none⟩) {j : Nat} {v : RV} (hj : l[j]? = some v) : w.cell? ⟨(ad.add (j * 3)).block, (ad.add (j * 3)).off + 1, none⟩ = some (.slice v.A v.xs.length v.c) := by
 subst had
 rw [add_ad]
 have hg := flat_get l j v hj 1 (by omega)
 rw [blk_cell h]
 simpa [RV.cells] using hg
theorem most_calls (a b : Int) (w : World) : Calls Tryz.prog 104 #[.int .i64 a, .int .i64 b] w fun e w' => e = .returned (.int .i64 (mostR a b)) ∧ Drawn0 w w' := by
 by_cases h : b < a
 ·have n1 : decide (b < a) = true := by simpa using h
  have hm : mostR a b = a := if_pos h
  rw [hm]
  go_enter Tryz.func104, Tryz.ntmps104
  go_wp2
  go_ret
  exact ⟨rfl, DQ⟩
 ·have n1 : decide (b < a) = false := by simpa using h
  have hm : mostR a b = b := if_neg h
  rw [hm]
  go_enter Tryz.func104, Tryz.ntmps104
  go_wp2
  go_ret
  exact ⟨rfl, DQ⟩
end Go.Proofs.YtpoehkacfmljcaaGreatDoor.H
