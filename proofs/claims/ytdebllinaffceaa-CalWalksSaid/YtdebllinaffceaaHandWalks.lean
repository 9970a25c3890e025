import Derived.Test.YtdebllinaffceaaHandWalksA
namespace Go.Proofs.Ytdebllinaffceaa.M
open Go.RowKit Go.Proofs.YtdebllinaffceaaW.PrintWords Go.Proofs.YtdebllinaffceaaW.PrintLast Go.Proofs.YtdebllinaffceaaW.PrintMore
attribute [local go_sem] Oper.semAt_some
set_option linter.unusedVariables false
set_option linter.unusedSimpArgs false
set_option maxHeartbeats 4000000 in
set_option maxRecDepth 100000 in
theorem walks_good (K : Nat) (a b : Int) (A : Option Addr) (c3 : Nat) (l : List Int) (sp inn : Int) (zs : List Int) (w : World) (hr : Kd.C (Kd.int .i64) w A l.length l) (hc3 : l.length ≤ c3) (hl : l.length < 17592186044416)
    (hown : payofflaw02_own.f K l = some l) (hint : payofflaw02_intact.f K l l = some true) (href : payoffref02_Between.f K a b l = some zs) (a0 : Int) (ha0 : (if a < 0 then 0 else a) = a0) (hz : cal_walk.upto K l b a0 = some zs) (hsz : zs.length < 17592186044416) :
    Calls Try.prog 4 #[.int .i64 a, .int .i64 b, .slice A l.length c3, .int .i64 sp, .int .i64 inn] w fun e w' => e = .returned (.bool true) ∧ Below w.heap.size w w' := by
  have HR := Aside0.mk hr
  have HC3 := Aside0.mk hc3
  have HL := Aside0.mk hl
  have HOWN := Aside0.mk hown
  have HINT := Aside0.mk hint
  have HREF := Aside0.mk href
  have HZ := Aside0.mk hz
  have HSZ := Aside0.mk hsz
  clear hr hc3 hl hown hint href hz hsz
  refine (callsIn_wide (n := 6)).1 ?_
  refine callsIn_of_wp_marks Try.func4 rfl trivial ?_ rfl
  simp only [Try.ntmps4, List.size_toArray, List.length_cons, List.length_nil, Nat.reduceAdd, Nat.reduceSub, Array.replicate_succ, Array.replicate_zero, List.push_toArray, List.append_toArray, List.nil_append, List.cons_append]
  have qf := eql_func_nil
  have hsf := fun (a : Addr) (c : Array Value) (w : World) => run_store Try.prog w a (.func (.func 23) #[] c) .plain rfl
  have W0s := cell_new_l w (.int .i64 sp) 3
  have W0i := cell_new_l (w.alloc (.cells #[.int .i64 sp] 3)) (.int .i64 inn) 3
  have W0r := cell_new_l ((w.alloc (.cells #[.int .i64 sp] 3)).alloc (.cells #[.int .i64 inn] 3)) (.bool false) 4
  simp only [World.size_alloc] at W0i W0r
  obtain ⟨W0, hW0⟩ : ∃ W0, ((w.alloc (.cells #[.int .i64 sp] 3)).alloc (.cells #[.int .i64 inn] 3)).alloc (.cells #[.bool false] 4) = W0 := ⟨_, rfl⟩
  have hs0 : W0.cell? ⟨w.heap.size, 0, none⟩ = some (.int .i64 sp) := by rw [← hW0]; exact cell_alloc_l _ (cell_alloc_l _ W0s.1)
  have hi0 : W0.cell? ⟨w.heap.size + 1, 0, none⟩ = some (.int .i64 inn) := by rw [← hW0]; exact cell_alloc_l _ W0i.1
  have hr0 : W0.cell? ⟨w.heap.size + 1 + 1, 0, none⟩ = some (.bool false) := by rw [← hW0]; exact W0r.1
  have hf0 : W0.frozen? ⟨w.heap.size + 1 + 1, 0, none⟩ = false := by rw [← hW0]; exact W0r.2
  have hb0 : Below w.heap.size w W0 := by rw [← hW0]; exact (((Below.refl _ w).alloc (Nat.le_refl _) _).alloc (by simp) _).alloc (by simp; omega) _
  have hz0 : W0.heap.size = w.heap.size + 3 := by rw [← hW0]; simp
  have HS0 := Aside0.mk hs0
  have HI0 := Aside0.mk hi0
  have HR0 := Aside0.mk hr0
  have HF0 := Aside0.mk hf0
  have HB0 := Aside0.mk hb0
  have HZ0 := Aside0.mk hz0
  clear W0s W0i W0r hs0 hi0 hr0 hf0 hb0 hz0
  gi_wp2_with (first
    | (refine ⟨trivial, ?_⟩; gi_at_call 9; refine (callsIn_wide.2 (payoffref02_Between.calls K a b A c3 l zs _ (Kd.C_below HR.out HB0.out) HC3.out HREF.out)).mono ?_; rintro e w1 ⟨v1, rfl, hv1, hb1⟩; obtain ⟨Az, cz, rfl⟩ := Kd.R_slice hv1; have HV1 := Aside0.mk hv1; have HB1 := Aside0.mk hb1; clear hv1 hb1)
    | (refine ⟨trivial, ?_⟩; gi_at_call 10; refine (callsIn_wide.2 (payofflaw02_own.callsF K A c3 l l _ (Kd.C_alloc (Kd.C_below (Kd.C_below HR.out HB0.out) HB1.out) _) HC3.out HOWN.out)).mono ?_; rintro e w2 ⟨v2, rfl, hv2, hb2, hF⟩; obtain ⟨Ai, ci, rfl⟩ := Kd.R_slice hv2; have HV2 := Aside0.mk hv2; have HB2 := Aside0.mk hb2; have HF := Aside0.mk hF; clear hv2 hb2 hF)
    | (refine ⟨trivial, ?_⟩; gi_at_call 11; refine (callsIn_wide.2 (cal_Between.callsF a b Ai ci l _ (Kd.R_reads' HV2.out).2.2 (Kd.R_reads' HV2.out).2.1 HL.out)).mono ?_; rintro e w3 ⟨bf, bw, bs, bh, bt, Ac, cc, rfl, hcap, hb3, hbb, hrr⟩; rw [ha0] at hcap; have HCAP := Aside0.mk hcap; have HB3 := Aside0.mk hb3; have HBB := Aside0.mk hbb; have HRR := Aside0.mk hrr; clear hcap hb3 hbb hrr)
    | (refine ⟨trivial, ?_⟩; gi_at_call 12; refine (callsIn_wide.2 (payofflaw02_intact.callsF K Ai ci l A c3 l true _ (Kd.C_alloc (Kd.C_below (Kd.R_reads' HV2.out).2.2 HB3.out) _) (Kd.R_reads' HV2.out).2.1 (Kd.C_alloc (Kd.C_below (Kd.C_below (Kd.C_alloc (Kd.C_below (Kd.C_below HR.out HB0.out) HB1.out) _) HB2.out) HB3.out) _) HC3.out HINT.out ?c12)).mono ?_; rotate_left; rintro e w' ⟨rfl, ⟨nd, rfl⟩⟩))
  case c12 =>
    intro hA
    obtain ⟨A', c', full, e, h2, h3, h4, hR⟩ := HF.out hA
    injection e with ea en ec
    subst ea
    subst ec
    have hQ := Kd.R_reads' (Kd.R_alloc (Kd.R_below hR HB3.out) (.cells #[.func (.func 23) #[] #[.pointer (some ⟨bf, 0, none⟩), .pointer (some ⟨bw, 0, none⟩), .pointer (some ⟨bs, 0, none⟩), .pointer (some ⟨bh, 0, none⟩)]] 32))
    exact ⟨full, hQ.2.1, h2, h3, h4, hQ.2.2⟩
  rename_i Kc hKc
  have s1 : W0.heap.size ≤ w1.heap.size := HB1.out.size
  have s2 : w1.heap.size + 1 ≤ w2.heap.size := by have := HB2.out.size; simpa using this
  have s3 : w2.heap.size ≤ w3.heap.size := HB3.out.size
  have bA : Below W0.heap.size W0 ((w3.alloc (.cells #[.func (.func 23) #[] #[.pointer (some ⟨bf, 0, none⟩), .pointer (some ⟨bw, 0, none⟩), .pointer (some ⟨bs, 0, none⟩), .pointer (some ⟨bh, 0, none⟩)]] 32)).drewN nd) := pw_below_drewN ((below_step (below_step (HB1.out.alloc s1 (.cells #[.slice Az zs.length cz] 27)) HB2.out) HB3.out).alloc (by omega) _) nd
  have bB : Below w1.heap.size w1 ((w3.alloc (.cells #[.func (.func 23) #[] #[.pointer (some ⟨bf, 0, none⟩), .pointer (some ⟨bw, 0, none⟩), .pointer (some ⟨bs, 0, none⟩), .pointer (some ⟨bh, 0, none⟩)]] 32)).drewN nd) := pw_below_drewN ((below_step (below_step ((Below.refl _ w1).alloc (Nat.le_refl _) (.cells #[.slice Az zs.length cz] 27)) HB2.out) HB3.out).alloc (by omega) _) nd
  have bC : Below (w1.heap.size + 1) (w1.alloc (.cells #[.slice Az zs.length cz] 27)) ((w3.alloc (.cells #[.func (.func 23) #[] #[.pointer (some ⟨bf, 0, none⟩), .pointer (some ⟨bw, 0, none⟩), .pointer (some ⟨bs, 0, none⟩), .pointer (some ⟨bh, 0, none⟩)]] 32)).drewN nd) := by
    have := pw_below_drewN ((below_step HB2.out HB3.out).alloc (by simp; omega) (.cells #[.func (.func 23) #[] #[.pointer (some ⟨bf, 0, none⟩), .pointer (some ⟨bw, 0, none⟩), .pointer (some ⟨bs, 0, none⟩), .pointer (some ⟨bh, 0, none⟩)]] 32)) nd
    simpa using this
  have bD : Below w3.heap.size w3 ((w3.alloc (.cells #[.func (.func 23) #[] #[.pointer (some ⟨bf, 0, none⟩), .pointer (some ⟨bw, 0, none⟩), .pointer (some ⟨bs, 0, none⟩), .pointer (some ⟨bh, 0, none⟩)]] 32)).drewN nd) := pw_below_drewN ((Below.refl _ w3).alloc (Nat.le_refl _) _) nd
  have cS := (cell_new_l w3 (.func (.func 23) #[] #[.pointer (some ⟨bf, 0, none⟩), .pointer (some ⟨bw, 0, none⟩), .pointer (some ⟨bs, 0, none⟩), .pointer (some ⟨bh, 0, none⟩)]) 32).1
  have cW := (cell_new_l w1 (.slice Az zs.length cz) 27).1
  obtain ⟨P5, hP5⟩ : ∃ P5, (w3.alloc (.cells #[.func (.func 23) #[] #[.pointer (some ⟨bf, 0, none⟩), .pointer (some ⟨bw, 0, none⟩), .pointer (some ⟨bs, 0, none⟩), .pointer (some ⟨bh, 0, none⟩)]] 32)).drewN nd = P5 := ⟨_, rfl⟩
  have cS5 : P5.cell? ⟨w3.heap.size, 0, none⟩ = some (.func (.func 23) #[] #[.pointer (some ⟨bf, 0, none⟩), .pointer (some ⟨bw, 0, none⟩), .pointer (some ⟨bs, 0, none⟩), .pointer (some ⟨bh, 0, none⟩)]) := by rw [← hP5]; exact cS
  rw [hP5] at bA bB bC bD ⊢
  have rI : Kd.R (Kd.int .i64) 3 P5 (w1.heap.size + 1) (fun _ => True) (.slice Ai l.length ci) l := by rw [← hP5]; simpa using Kd.R_drewN (Kd.R_alloc (Kd.R_below HV2.out HB3.out) (.cells #[.func (.func 23) #[] #[.pointer (some ⟨bf, 0, none⟩), .pointer (some ⟨bw, 0, none⟩), .pointer (some ⟨bs, 0, none⟩), .pointer (some ⟨bh, 0, none⟩)]] 32)) nd
  have z5 : w3.heap.size + 1 = P5.heap.size := by rw [← hP5]; simp [World.drewN]
  clear hP5 cS
  /- what is left of it when the row of the holidays is written over -/
  have mk : ∀ V : World, (∀ k, ¬ (w1.heap.size + 1 ≤ k ∧ k < w2.heap.size) → V.heap[k]? = P5.heap[k]?) → Below w.heap.size w V → V.heap.size = P5.heap.size → Wk w sp inn zs Az cz w3.heap.size w1.heap.size bf bw bs bh bt a0 b Ac cc l V := by
    intro V hV hbl hsz
    have hz0 := HZ0.out
    have cel : ∀ (k : Nat) (v : Value), ¬ (w1.heap.size + 1 ≤ k ∧ k < w2.heap.size) → P5.cell? ⟨k, 0, none⟩ = some v → V.cell? ⟨k, 0, none⟩ = some v := fun k v hk hv => (World.cell?_of_block (w := P5) (hV k hk)).trans hv
    refine ⟨cel _ _ (by omega) ((bA.cell (p := ⟨w.heap.size, 0, none⟩) (by simp; omega)).trans HS0.out), cel _ _ (by omega) ((bA.cell (p := ⟨w.heap.size + 1, 0, none⟩) (by simp; omega)).trans HI0.out), cel _ _ (by omega) ((bA.cell (p := ⟨w.heap.size + 1 + 1, 0, none⟩) (by simp; omega)).trans HR0.out), ?_, cel _ _ (by omega) ((bC.cell (p := ⟨w1.heap.size, 0, none⟩) (by simp)).trans cW), cel _ _ (by omega) cS5, ?_, (Kd.R_reads' HV1.out).2.1, ?_, hbl, by omega⟩
    · exact ((World.frozen?_of_block (w := P5) (hV (w.heap.size + 1 + 1) (by omega))).trans (bA.frozen (p := ⟨w.heap.size + 1 + 1, 0, none⟩) (by simp; omega))).trans HF0.out
    · exact (Kd.heap_int .i64).C (fun k hk => (hV k (by omega)).trans (bB.block k hk)) (Kd.R_reads' HV1.out).2.2
    · exact HCAP.out.moved HBB.out HRR.out (fun k h1 h2 => (hV k (by omega)).trans (bD.block k h2))
  clear bB bC bD cW cS5
  have MK := Aside0.mk mk
  have HbA : Below w.heap.size w P5 := HB0.out.trans (bA.mono (by have := HZ0.out; omega))
  clear mk bA
  have hRest : ∀ (u15 u39 u40 u41 u42 u43 u44 u45 u46 u47 u48 : Value) (V : World), Wk w sp inn zs Az cz w3.heap.size w1.heap.size bf bw bs bh bt a0 b Ac cc l V → Kc { tmps := #[.int .i64 a, .int .i64 b, .slice A l.length c3, .int .i64 sp, .int .i64 inn, undef, undef, undef, .pointer (some ⟨w.heap.size, 0, none⟩), .pointer (some ⟨w.heap.size + 1, 0, none⟩), .pointer (some ⟨w.heap.size + 1 + 1, 0, none⟩), .pointer (some ⟨w1.heap.size, 0, none⟩), .slice Ai l.length ci, .pointer (some ⟨w3.heap.size, 0, none⟩), .bool true, u15, undef, undef, undef, undef, .int .i64 a, .int .i64 b, .slice A l.length c3, .slice Az zs.length cz, .slice A l.length c3, .slice Ai l.length ci, .int .i64 a, .int .i64 b, .slice Ai l.length ci, .func (.func 23) #[] #[.pointer (some ⟨bf, 0, none⟩), .pointer (some ⟨bw, 0, none⟩), .pointer (some ⟨bs, 0, none⟩), .pointer (some ⟨bh, 0, none⟩)], .slice Ai l.length ci, .slice A l.length c3, .bool true, .func (.func 23) #[] #[.pointer (some ⟨bf, 0, none⟩), .pointer (some ⟨bw, 0, none⟩), .pointer (some ⟨bs, 0, none⟩), .pointer (some ⟨bh, 0, none⟩)], .bool false, .bool false, .bool true, .bool false, .bool false, u39, u40, u41, u42, u43, u44, u45, u46, u47, u48, undef, undef, undef, undef, undef, undef, undef, undef, undef, undef, undef, undef, undef, undef, undef, undef, undef, undef, undef, undef, undef, undef, undef, undef, undef, undef, undef, undef, undef, undef, undef, undef, undef, undef, undef, undef, undef, undef, undef, undef, undef, undef, undef, undef, undef, undef, undef, undef, undef, undef, undef, undef, undef], defers := [] } V := by
    intro u15 u39 u40 u41 u42 u43 u44 u45 u46 u47 u48 VV HW
    have HW := Aside0.mk HW
    refine hKc _ _ ?_
    clear hKc
    gi_wp2
    have bP := Boxed.new VV 3 (.int .i64 0)
    have HW0 := Aside0.mk (HW.out.below ((Below.refl _ VV).alloc (Nat.le_refl _) (.cells #[.int .i64 0] 3)))
    obtain ⟨P0, hP0⟩ : ∃ P0, VV.alloc (.cells #[.int .i64 0] 3) = P0 := ⟨_, rfl⟩
    have hP0s : VV.heap.size + 1 ≤ P0.heap.size := by rw [← hP0]; simp
    have hP0t : P0.heap.size ≤ VV.heap.size + 1 := by rw [← hP0]; simp
    rw [hP0] at bP HW0 ⊢
    clear hP0
    have q16 := bP.cell
    have cs0 := cell_alloc_l (.cells #[.int .i64 0] 3) HW0.out.cs
    have hws : w.heap.size + 3 ≤ P0.heap.size := HW0.out.sz
    have hwv : w.heap.size + 3 ≤ VV.heap.size := HW.out.sz
    refine wpIn_loop_rounds 3 ?_
    rw [roundsIn_succ]
    gi_wp2
    rename_i Ka hKa Kb hKb Kc hKc
    clear cs0
    have bK := Boxed.new P0 3 (.int .i64 0)
    have hbk : Below P0.heap.size P0 (P0.alloc (.cells #[.int .i64 0] 3)) := (Below.refl _ P0).alloc (Nat.le_refl _) _
    obtain ⟨Q0, hQ0⟩ : ∃ Q0, P0.alloc (.cells #[.int .i64 0] 3) = Q0 := ⟨_, rfl⟩
    have hQ0s : P0.heap.size + 1 ≤ Q0.heap.size := by rw [← hQ0]; simp
    have hQ0t : Q0.heap.size ≤ P0.heap.size + 1 := by rw [← hQ0]; simp
    rw [hQ0] at bK hbk ⊢
    clear hQ0
    have hAfter0 : ∀ (D : Nat) (V1 : World) (u88 u89 u90 u91 u92 u93 u94 u95 u96 u97 u98 u99 u100 : Value), P0.heap.size ≤ D → Below P0.heap.size P0 V1 → V1.heap[D]? = some (.deferred (some [])) → Kb { tmps := #[.int .i64 a, .int .i64 b, .slice A l.length c3, .int .i64 sp, .int .i64 inn, undef, undef, undef, .pointer (some ⟨w.heap.size, 0, none⟩), .pointer (some ⟨w.heap.size + 1, 0, none⟩), .pointer (some ⟨w.heap.size + 1 + 1, 0, none⟩), .pointer (some ⟨w1.heap.size, 0, none⟩), .slice Ai l.length ci, .pointer (some ⟨w3.heap.size, 0, none⟩), .bool true, u15, .pointer (some ⟨VV.heap.size, 0, none⟩), .pointer (some ⟨P0.heap.size, 0, none⟩), undef, undef, .int .i64 a, .int .i64 b, .slice A l.length c3, .slice Az zs.length cz, .slice A l.length c3, .slice Ai l.length ci, .int .i64 a, .int .i64 b, .slice Ai l.length ci, .func (.func 23) #[] #[.pointer (some ⟨bf, 0, none⟩), .pointer (some ⟨bw, 0, none⟩), .pointer (some ⟨bs, 0, none⟩), .pointer (some ⟨bh, 0, none⟩)], .slice Ai l.length ci, .slice A l.length c3, .bool true, .func (.func 23) #[] #[.pointer (some ⟨bf, 0, none⟩), .pointer (some ⟨bw, 0, none⟩), .pointer (some ⟨bs, 0, none⟩), .pointer (some ⟨bh, 0, none⟩)], .bool false, .bool false, .bool true, .bool false, .bool false, u39, u40, u41, u42, u43, u44, u45, u46, u47, u48, .int .i64 0, .bool true, undef, undef, .func (.func 23) #[] #[.pointer (some ⟨bf, 0, none⟩), .pointer (some ⟨bw, 0, none⟩), .pointer (some ⟨bs, 0, none⟩), .pointer (some ⟨bh, 0, none⟩)], undef, undef, undef, undef, undef, undef, undef, undef, undef, undef, undef, undef, undef, undef, undef, undef, undef, undef, undef, undef, undef, undef, undef, undef, undef, undef, undef, undef, undef, undef, undef, undef, undef, undef, u88, u89, u90, u91, u92, u93, u94, u95, u96, u97, u98, u99, u100, undef], defers := [{ target := .collected D, args := #[] }] } V1 := by
      as_aux_lemma =>
        intro D V1 u88 u89 u90 u91 u92 u93 u94 u95 u96 u97 u98 u99 u100 hD hB hK
        have hD1 := (Array.getElem?_eq_some_iff.1 hK).1
        have HW1 := Aside0.mk (HW0.out.below hB)
        have q16 := (hB.cell (p := ⟨VV.heap.size, 0, none⟩) (by simp; omega)).trans bP.cell
        have q16a := cell_alloc_l (.cells #[.int .i64 0] 3) q16
        refine hKb _ _ ?_
        clear hKb hKc
        gi_wp2
        have bP1 := Boxed.new V1 3 (.int .i64 1)
        have HWP := Aside0.mk (HW1.out.below ((Below.refl _ V1).alloc (Nat.le_refl _) (.cells #[.int .i64 1] 3)))
        have hKP := (Below.heap_alloc V1 (.cells #[.int .i64 1] 3) D hD1).trans hK
        obtain ⟨P1, hP1⟩ : ∃ P1, V1.alloc (.cells #[.int .i64 1] 3) = P1 := ⟨_, rfl⟩
        have hP1s : V1.heap.size + 1 ≤ P1.heap.size := by rw [← hP1]; simp
        have hP1t : P1.heap.size ≤ V1.heap.size + 1 := by rw [← hP1]; simp
        rw [hP1] at bP1 HWP hKP ⊢
        clear hP1 q16 q16a
        have q16 := bP1.cell
        have cs0 := cell_alloc_l (.cells #[.int .i64 0] 3) HWP.out.cs
        have hws1 : w.heap.size + 3 ≤ P1.heap.size := HWP.out.sz
        have hwv1 : w.heap.size + 3 ≤ V1.heap.size := HW1.out.sz
        rw [roundsIn_succ]
        gi_wp2
        rename_i Kbb hKbb Kcc hKcc
        clear cs0
        have bK1 := Boxed.new P1 3 (.int .i64 0)
        have hbk1 : Below P1.heap.size P1 (P1.alloc (.cells #[.int .i64 0] 3)) := (Below.refl _ P1).alloc (Nat.le_refl _) _
        have hKQ := (Below.heap_alloc P1 (.cells #[.int .i64 0] 3) D (by omega)).trans hKP
        obtain ⟨Q1, hQ1⟩ : ∃ Q1, P1.alloc (.cells #[.int .i64 0] 3) = Q1 := ⟨_, rfl⟩
        have hQ1s : P1.heap.size + 1 ≤ Q1.heap.size := by rw [← hQ1]; simp
        have hQ1t : Q1.heap.size ≤ P1.heap.size + 1 := by rw [← hQ1]; simp
        rw [hQ1] at bK1 hbk1 hKQ ⊢
        clear hQ1
        have hDQ : D < Q1.heap.size := by omega
        have hAfter1 : ∀ (D' : Nat) (V2 : World) (v88 v89 v90 v91 v92 v93 v94 v95 v96 v97 v98 v99 v100 : Value), P1.heap.size ≤ D' → Below P1.heap.size P1 V2 → V2.heap[D']? = some (.deferred (some [])) → V2.heap[D]? = some (.deferred (some [])) → Kbb { tmps := #[.int .i64 a, .int .i64 b, .slice A l.length c3, .int .i64 sp, .int .i64 inn, undef, undef, undef, .pointer (some ⟨w.heap.size, 0, none⟩), .pointer (some ⟨w.heap.size + 1, 0, none⟩), .pointer (some ⟨w.heap.size + 1 + 1, 0, none⟩), .pointer (some ⟨w1.heap.size, 0, none⟩), .slice Ai l.length ci, .pointer (some ⟨w3.heap.size, 0, none⟩), .bool true, u15, .pointer (some ⟨V1.heap.size, 0, none⟩), .pointer (some ⟨P1.heap.size, 0, none⟩), undef, undef, .int .i64 a, .int .i64 b, .slice A l.length c3, .slice Az zs.length cz, .slice A l.length c3, .slice Ai l.length ci, .int .i64 a, .int .i64 b, .slice Ai l.length ci, .func (.func 23) #[] #[.pointer (some ⟨bf, 0, none⟩), .pointer (some ⟨bw, 0, none⟩), .pointer (some ⟨bs, 0, none⟩), .pointer (some ⟨bh, 0, none⟩)], .slice Ai l.length ci, .slice A l.length c3, .bool true, .func (.func 23) #[] #[.pointer (some ⟨bf, 0, none⟩), .pointer (some ⟨bw, 0, none⟩), .pointer (some ⟨bs, 0, none⟩), .pointer (some ⟨bh, 0, none⟩)], .bool false, .bool false, .bool true, .bool false, .bool false, u39, u40, u41, u42, u43, u44, u45, u46, u47, u48, .int .i64 1, .bool true, .int .i64 0, .int .i64 1, .func (.func 23) #[] #[.pointer (some ⟨bf, 0, none⟩), .pointer (some ⟨bw, 0, none⟩), .pointer (some ⟨bs, 0, none⟩), .pointer (some ⟨bh, 0, none⟩)], undef, undef, undef, undef, undef, undef, undef, undef, undef, undef, undef, undef, undef, undef, undef, undef, undef, undef, undef, undef, undef, undef, undef, undef, undef, undef, undef, undef, undef, undef, undef, undef, undef, undef, v88, v89, v90, v91, v92, v93, v94, v95, v96, v97, v98, v99, v100, .int .i64 0], defers := [{ target := .collected D', args := #[] }, { target := .collected D, args := #[] }] } V2 := by
          as_aux_lemma =>
            intro D' V2 v88 v89 v90 v91 v92 v93 v94 v95 v96 v97 v98 v99 v100 hD' hB2 hK2 hKD
            have hn : D' < V2.heap.size := (Array.getElem?_eq_some_iff.1 hK2).1
            have HW2 := Aside0.mk (HWP.out.below hB2)
            have q16b := (hB2.cell (p := ⟨V1.heap.size, 0, none⟩) (by simp; omega)).trans bP1.cell
            have q16c := cell_alloc_l (.cells #[.int .i64 1] 3) q16b
            have HW3 := Aside0.mk (HW2.out.below ((Below.refl _ V2).alloc (Nat.le_refl _) (.cells #[.int .i64 2] 3)))
            have q10 := HW3.out.c10
            have f10 := HW3.out.f10
            refine hKbb _ _ ?_
            clear hKbb hKcc
            gi_wp2
            rw [roundsIn_succ]
            gi_wp2
            have kc := World.cell?_setCell_same' (V2.alloc (.cells #[.int .i64 2] 3)) ⟨w.heap.size + 1 + 1, 0, none⟩ (.bool true) (by rw [q10]; rfl)
            have KO := (KeepsOthers.alloc V2 (.cells #[.int .i64 2] 3)).trans (KeepsOthers.setCell (V2.alloc (.cells #[.int .i64 2] 3)) ⟨w.heap.size + 1 + 1, 0, none⟩ (.bool true))
            have k2 := KO.same D' _ hK2 rfl
            have k1 := KO.same D _ hKD rfl
            have hbl := HW3.out.bl.setCell (p := ⟨w.heap.size + 1 + 1, 0, none⟩) (by simp; omega) (.bool true)
            obtain ⟨U, hU⟩ : ∃ U, (V2.alloc (.cells #[.int .i64 2] 3)).setCell ⟨w.heap.size + 1 + 1, 0, none⟩ (.bool true) = U := ⟨_, rfl⟩
            rw [hU] at kc k2 k1 hbl ⊢
            clear KO hU
            have n1 : D ≠ D' := by omega
            refine ⟨by simp, .inl ⟨_, _, rfl, run_takeDeferred k2, ?_⟩⟩
            have c1 := cell_kept kc (grownBy_putObj' U D' (.deferred none)) (fun r e => by cases e; exact ⟨_, k2, rfl⟩)
            have b1 := hbl.trans (belowK_b (n₀ := w.heap.size) (w := w) (Nat.le_refl _) U D' _ (.deferred none) (by omega) k2 rfl rfl)
            replace k1 := (World.putObj_heap_other (w := U) (o := .deferred none) n1).trans k1
            refine ⟨by simp, .inl ⟨_, _, rfl, run_takeDeferred k1, ?_⟩⟩
            have c2 := cell_kept c1 (grownBy_putObj' _ D (.deferred none)) (fun r e => by cases e; exact ⟨_, k1, rfl⟩)
            have b2 := b1.trans (belowK_b (n₀ := w.heap.size) (w := w) (Nat.le_refl _) _ D _ (.deferred none) (by omega) k1 rfl rfl)
            refine ⟨.bool true, ?_, rfl, b2⟩
            simp [results, Try.f4, go_sem, c2]
        have HAFT1 := Aside0.mk hAfter1
        clear hKbb hAfter1
        have hNext1 : ∀ (D' : Nat) (V2 : World), P1.heap.size ≤ D' → Boxed V2 P1.heap.size 3 (.int .i64 (zs.length : Int)) → Below P1.heap.size P1 V2 → V2.heap[D']? = some (.deferred (some [])) → V2.heap[D]? = some (.deferred (some [])) → Kcc { tmps := #[.int .i64 a, .int .i64 b, .slice A l.length c3, .int .i64 sp, .int .i64 inn, undef, undef, undef, .pointer (some ⟨w.heap.size, 0, none⟩), .pointer (some ⟨w.heap.size + 1, 0, none⟩), .pointer (some ⟨w.heap.size + 1 + 1, 0, none⟩), .pointer (some ⟨w1.heap.size, 0, none⟩), .slice Ai l.length ci, .pointer (some ⟨w3.heap.size, 0, none⟩), .bool true, u15, .pointer (some ⟨V1.heap.size, 0, none⟩), .pointer (some ⟨P1.heap.size, 0, none⟩), undef, undef, .int .i64 a, .int .i64 b, .slice A l.length c3, .slice Az zs.length cz, .slice A l.length c3, .slice Ai l.length ci, .int .i64 a, .int .i64 b, .slice Ai l.length ci, .func (.func 23) #[] #[.pointer (some ⟨bf, 0, none⟩), .pointer (some ⟨bw, 0, none⟩), .pointer (some ⟨bs, 0, none⟩), .pointer (some ⟨bh, 0, none⟩)], .slice Ai l.length ci, .slice A l.length c3, .bool true, .func (.func 23) #[] #[.pointer (some ⟨bf, 0, none⟩), .pointer (some ⟨bw, 0, none⟩), .pointer (some ⟨bs, 0, none⟩), .pointer (some ⟨bh, 0, none⟩)], .bool false, .bool false, .bool true, .bool false, .bool false, u39, u40, u41, u42, u43, u44, u45, u46, u47, u48, .int .i64 1, .bool true, .int .i64 0, .int .i64 1, .func (.func 23) #[] #[.pointer (some ⟨bf, 0, none⟩), .pointer (some ⟨bw, 0, none⟩), .pointer (some ⟨bs, 0, none⟩), .pointer (some ⟨bh, 0, none⟩)], undef, undef, undef, undef, undef, undef, undef, undef, undef, undef, undef, undef, undef, undef, undef, undef, undef, undef, undef, undef, undef, undef, undef, undef, undef, undef, undef, undef, undef, undef, undef, undef, undef, undef, u88, u89, u90, u91, u92, u93, u94, u95, u96, u97, u98, u99, u100, .int .i64 0], defers := [{ target := .collected D', args := #[] }, { target := .collected D, args := #[] }] } V2 := by
          as_aux_lemma =>
            intro D' V2 hD' hk hB2 hK2 hKD
            have W1 := HWP.out.below hB2
            have q17 := hk.cell
            have cw := W1.cw
            have c8 := W1.c8
            have q16b := (hB2.cell (p := ⟨V1.heap.size, 0, none⟩) (by simp; omega)).trans bP1.cell
            refine hKcc _ _ ?_
            clear hKcc W1
            gi_wp2
            exact HAFT1.out D' V2 _ _ _ _ _ _ _ _ _ _ _ _ _ hD' hB2 hK2 hKD
        have HN1 := Aside0.mk hNext1
        clear hKcc hNext1 HAFT1
        refine wpIn_rangeFunc_ownF (α := Int) (encs := fun x => #[.int .i64 x]) (Kp := Below P1.heap.size) (S := fun ys => ys = zs) (Sp := fun pre => pre <+: zs ∧ pre ≠ []) (N := zs.length) (w0 := Q1) rfl (by omega) (gf := 23)
          (lb := #[.pointer (some ⟨bf, 0, none⟩), .pointer (some ⟨bw, 0, none⟩), .pointer (some ⟨bs, 0, none⟩), .pointer (some ⟨bh, 0, none⟩)]) rfl trivial (enters_of Try.func23 (by kernel_rfl) rfl)
          (HWP.out.cap.stops K zs HZ.out 5 (by omega) Q1 hbk1) belowK_t (belowK_b (by omega)) (Below.refl _ _) (fun _ => rfl)
          (fun pre V => Boxed V P1.heap.size 3 (.int .i64 (pre.length : Int)) ∧ Below P1.heap.size P1 V ∧ V.heap[D]? = some (.deferred (some [])))
          (fun _ pre _ => ¬ pre <+: zs)
          (OwnFrom.and (Own.from (boxed_own _ _ (fun pre : List Int => .int .i64 (pre.length : Int))) _) (OwnFrom.and (ownFrom_below (Nat.le_refl _) (by omega)) (ownFrom_block hDQ)))
          (fun _ _ _ _ _ hs _ _ => hs)
          ⟨bK1, hbk1, hKQ⟩
          (fun x => { tmps := #[.int .i64 a, .int .i64 b, .slice A l.length c3, .int .i64 sp, .int .i64 inn, undef, undef, undef, .pointer (some ⟨w.heap.size, 0, none⟩), .pointer (some ⟨w.heap.size + 1, 0, none⟩), .pointer (some ⟨w.heap.size + 1 + 1, 0, none⟩), .pointer (some ⟨w1.heap.size, 0, none⟩), .slice Ai l.length ci, .pointer (some ⟨w3.heap.size, 0, none⟩), .bool true, u15, .pointer (some ⟨V1.heap.size, 0, none⟩), .pointer (some ⟨P1.heap.size, 0, none⟩), .int .i64 x, undef, .int .i64 a, .int .i64 b, .slice A l.length c3, .slice Az zs.length cz, .slice A l.length c3, .slice Ai l.length ci, .int .i64 a, .int .i64 b, .slice Ai l.length ci, .func (.func 23) #[] #[.pointer (some ⟨bf, 0, none⟩), .pointer (some ⟨bw, 0, none⟩), .pointer (some ⟨bs, 0, none⟩), .pointer (some ⟨bh, 0, none⟩)], .slice Ai l.length ci, .slice A l.length c3, .bool true, .func (.func 23) #[] #[.pointer (some ⟨bf, 0, none⟩), .pointer (some ⟨bw, 0, none⟩), .pointer (some ⟨bs, 0, none⟩), .pointer (some ⟨bh, 0, none⟩)], .bool false, .bool false, .bool true, .bool false, .bool false, u39, u40, u41, u42, u43, u44, u45, u46, u47, u48, .int .i64 1, .bool true, .int .i64 0, .int .i64 1, .func (.func 23) #[] #[.pointer (some ⟨bf, 0, none⟩), .pointer (some ⟨bw, 0, none⟩), .pointer (some ⟨bs, 0, none⟩), .pointer (some ⟨bh, 0, none⟩)], .int .i64 x, undef, undef, undef, undef, undef, undef, undef, undef, undef, undef, undef, undef, undef, undef, undef, undef, undef, undef, undef, undef, undef, undef, undef, undef, undef, undef, undef, undef, undef, undef, undef, undef, undef, u88, u89, u90, u91, u92, u93, u94, u95, u96, u97, u98, u99, u100, .int .i64 0], defers := [] }) ?assign1 ?body1 ?done1 ?stop1
        case assign1 =>
          intro yl x V Kc hKc
          gi_wp2
          exact hKc
        case stop1 =>
          rintro D' c pre V _ ⟨hp, _⟩ hn _
          exact absurd hp hn
        case body1 =>
          as_aux_lemma =>
            rintro yl pre x V ⟨hk, hB, hDD⟩ hlt
            have HV := Aside0.mk (HWP.out.below hB)
            obtain ⟨ad, hea, hcx⟩ := Kd.at_int HV.out.rz (pre.length : Int) (by omega) (by omega)
            cases hea
            simp only [Int.toNat_natCast] at hcx
            have ck := hk.cell
            have fk := hk.frozen
            have cw := HV.out.cw
            have cs := HV.out.cs
            have c8 := HV.out.c8
            have c9 := HV.out.c9
            have c10 := HV.out.c10
            have f10 := HV.out.f10
            have q16 := (hB.cell (p := ⟨V1.heap.size, 0, none⟩) (by simp; omega)).trans bP1.cell
            have hz : zs[pre.length]? = some (rd zs (pre.length : Int)) := by unfold rd; rw [Int.toNat_natCast, List.getD_eq_getElem?_getD, List.getElem?_eq_getElem hlt]; rfl
            obtain ⟨z, hzz⟩ : ∃ z, rd zs (pre.length : Int) = z := ⟨_, rfl⟩
            rw [hzz] at hcx hz
            have d1 : ¬ ((pre.length : Int) ≥ (zs.length : Int)) := by omega
            have HHK := Aside0.mk hk
            have HHB := Aside0.mk hB
            have HHZ := Aside0.mk hz
            clear hk hB hz hzz
            by_cases hzx : z = x
            case neg =>
              have hbq : (z == x) = false := beq_eq_false_iff_ne.mpr hzx
              gi_wp2
              exact ⟨KeepsOthers.setCell _ _ _, fun hp => by have := prefix_get hp; rw [HHZ.out] at this; exact hzx (Option.some.inj this)⟩
            case pos =>
              subst hzx
              have hw : wrap64 ((pre.length : Int) + 1) = (pre.length : Int) + 1 := by have := HSZ.out; unfold wrap64; omega
              have hcast : ((pre ++ [z]).length : Int) = (pre.length : Int) + 1 := by simp
              have HCA := Aside0.mk hcast
              clear hcast
              by_cases hi : (pre.length : Int) = inn
              case pos =>
                by_cases hs : (pre.length : Int) + 1 = sp
                case pos =>
                  have hib : ((pre.length : Int) == inn) = true := by simpa using hi
                  have hsb : ((pre.length : Int) + 1 == sp) = true := by simpa using hs
                  clear hi hs
                  have c8s := fun v => (World.cell?_of_block (w := V) (Below.heap_setCell V ⟨P1.heap.size, 0, none⟩ v w.heap.size (by simp; omega))).trans c8
                  have q16s := fun v => (World.cell?_of_block (w := V) (Below.heap_setCell V ⟨P1.heap.size, 0, none⟩ v V1.heap.size (by simp; omega))).trans q16
                  gi_wp2
                  have KO := KeepsOthers.setCell V ⟨P1.heap.size, 0, none⟩ (.int .i64 ((pre.length : Int) + 1))
                  have BL := (Below.refl P1.heap.size V).setCell (p := ⟨P1.heap.size, 0, none⟩) (Nat.le_refl _) (.int .i64 ((pre.length : Int) + 1))
                  exact ⟨KO, BL, by rw [HCA.out]; exact (HHK.out.set (.int .i64 ((pre.length : Int) + 1))), HHB.out.trans BL, KO.same D _ hDD rfl⟩
                case neg =>
                  have hib : ((pre.length : Int) == inn) = true := by simpa using hi
                  have hsb : ((pre.length : Int) + 1 == sp) = false := by simpa using hs
                  clear hi hs
                  have c8s := fun v => (World.cell?_of_block (w := V) (Below.heap_setCell V ⟨P1.heap.size, 0, none⟩ v w.heap.size (by simp; omega))).trans c8
                  have q16s := fun v => (World.cell?_of_block (w := V) (Below.heap_setCell V ⟨P1.heap.size, 0, none⟩ v V1.heap.size (by simp; omega))).trans q16
                  gi_wp2
                  have KO := KeepsOthers.setCell V ⟨P1.heap.size, 0, none⟩ (.int .i64 ((pre.length : Int) + 1))
                  have BL := (Below.refl P1.heap.size V).setCell (p := ⟨P1.heap.size, 0, none⟩) (Nat.le_refl _) (.int .i64 ((pre.length : Int) + 1))
                  exact ⟨KO, BL, by rw [HCA.out]; exact (HHK.out.set (.int .i64 ((pre.length : Int) + 1))), HHB.out.trans BL, KO.same D _ hDD rfl⟩
              case neg =>
                by_cases hs : (pre.length : Int) + 1 = sp
                case pos =>
                  have hib : ((pre.length : Int) == inn) = false := by simpa using hi
                  have hsb : ((pre.length : Int) + 1 == sp) = true := by simpa using hs
                  clear hi hs
                  have c8s := fun v => (World.cell?_of_block (w := V) (Below.heap_setCell V ⟨P1.heap.size, 0, none⟩ v w.heap.size (by simp; omega))).trans c8
                  have q16s := fun v => (World.cell?_of_block (w := V) (Below.heap_setCell V ⟨P1.heap.size, 0, none⟩ v V1.heap.size (by simp; omega))).trans q16
                  gi_wp2
                  have KO := KeepsOthers.setCell V ⟨P1.heap.size, 0, none⟩ (.int .i64 ((pre.length : Int) + 1))
                  have BL := (Below.refl P1.heap.size V).setCell (p := ⟨P1.heap.size, 0, none⟩) (Nat.le_refl _) (.int .i64 ((pre.length : Int) + 1))
                  exact ⟨KO, BL, by rw [HCA.out]; exact (HHK.out.set (.int .i64 ((pre.length : Int) + 1))), HHB.out.trans BL, KO.same D _ hDD rfl⟩
                case neg =>
                  have hib : ((pre.length : Int) == inn) = false := by simpa using hi
                  have hsb : ((pre.length : Int) + 1 == sp) = false := by simpa using hs
                  clear hi hs
                  have c8s := fun v => (World.cell?_of_block (w := V) (Below.heap_setCell V ⟨P1.heap.size, 0, none⟩ v w.heap.size (by simp; omega))).trans c8
                  have q16s := fun v => (World.cell?_of_block (w := V) (Below.heap_setCell V ⟨P1.heap.size, 0, none⟩ v V1.heap.size (by simp; omega))).trans q16
                  gi_wp2
                  have KO := KeepsOthers.setCell V ⟨P1.heap.size, 0, none⟩ (.int .i64 ((pre.length : Int) + 1))
                  have BL := (Below.refl P1.heap.size V).setCell (p := ⟨P1.heap.size, 0, none⟩) (Nat.le_refl _) (.int .i64 ((pre.length : Int) + 1))
                  exact ⟨KO, BL, by rw [HCA.out]; exact (HHK.out.set (.int .i64 ((pre.length : Int) + 1))), HHB.out.trans BL, KO.same D _ hDD rfl⟩
        case done1 =>
          rintro D' ys V hD' hzs ⟨hk, hB, hDD⟩ hK'
          have hzs' := hzs.symm
          subst hzs'
          exact HN1.out D' V (by omega) hk hB hK' hDD
    have HAFT0 := Aside0.mk hAfter0
    clear hKb hAfter0
    have hNext0 : ∀ (D kk : Nat) (V1 : World), P0.heap.size ≤ D → kk ≤ zs.length → ((kk : Int) = zs.length ∨ (kk : Int) = sp) → Boxed V1 P0.heap.size 3 (.int .i64 (kk : Int)) → Below P0.heap.size P0 V1 → V1.heap[D]? = some (.deferred (some [])) → Kc { tmps := #[.int .i64 a, .int .i64 b, .slice A l.length c3, .int .i64 sp, .int .i64 inn, undef, undef, undef, .pointer (some ⟨w.heap.size, 0, none⟩), .pointer (some ⟨w.heap.size + 1, 0, none⟩), .pointer (some ⟨w.heap.size + 1 + 1, 0, none⟩), .pointer (some ⟨w1.heap.size, 0, none⟩), .slice Ai l.length ci, .pointer (some ⟨w3.heap.size, 0, none⟩), .bool true, u15, .pointer (some ⟨VV.heap.size, 0, none⟩), .pointer (some ⟨P0.heap.size, 0, none⟩), undef, undef, .int .i64 a, .int .i64 b, .slice A l.length c3, .slice Az zs.length cz, .slice A l.length c3, .slice Ai l.length ci, .int .i64 a, .int .i64 b, .slice Ai l.length ci, .func (.func 23) #[] #[.pointer (some ⟨bf, 0, none⟩), .pointer (some ⟨bw, 0, none⟩), .pointer (some ⟨bs, 0, none⟩), .pointer (some ⟨bh, 0, none⟩)], .slice Ai l.length ci, .slice A l.length c3, .bool true, .func (.func 23) #[] #[.pointer (some ⟨bf, 0, none⟩), .pointer (some ⟨bw, 0, none⟩), .pointer (some ⟨bs, 0, none⟩), .pointer (some ⟨bh, 0, none⟩)], .bool false, .bool false, .bool true, .bool false, .bool false, u39, u40, u41, u42, u43, u44, u45, u46, u47, u48, .int .i64 0, .bool true, undef, undef, .func (.func 23) #[] #[.pointer (some ⟨bf, 0, none⟩), .pointer (some ⟨bw, 0, none⟩), .pointer (some ⟨bs, 0, none⟩), .pointer (some ⟨bh, 0, none⟩)], undef, undef, undef, undef, undef, undef, undef, undef, undef, undef, undef, undef, undef, undef, undef, undef, undef, undef, undef, undef, undef, undef, undef, undef, undef, undef, undef, undef, undef, undef, undef, undef, undef, undef, undef, undef, undef, undef, undef, undef, undef, undef, undef, undef, undef, undef, undef, undef], defers := [{ target := .collected D, args := #[] }] } V1 := by
      as_aux_lemma =>
        intro D kk V1 hD hkk hor hk hB hK
        have W1 := HW0.out.below hB
        have q17 := hk.cell
        have cw := W1.cw
        have c8 := W1.c8
        have q16 := (hB.cell (p := ⟨VV.heap.size, 0, none⟩) (by simp; omega)).trans bP.cell
        refine hKc _ _ ?_
        clear hKc W1
        by_cases e1 : (kk : Int) = zs.length
        case pos =>
          have e1b : ((kk : Int) != (zs.length : Int)) = false := by simp [e1]
          gi_wp2
          exact HAFT0.out D V1 _ _ _ _ _ _ _ _ _ _ _ _ _ hD hB hK
        case neg =>
          have e1b : ((kk : Int) != (zs.length : Int)) = true := by simpa using e1
          have e2 : (kk : Int) = sp := hor.resolve_left e1
          have e2b : ((kk : Int) != sp) = false := by simp [e2]
          clear e2
          gi_wp2
          exact HAFT0.out D V1 _ _ _ _ _ _ _ _ _ _ _ _ _ hD hB hK
    have HN0 := Aside0.mk hNext0
    clear hKc hNext0 HAFT0
    refine wpIn_rangeFunc_ownF (α := Int) (encs := fun x => #[.int .i64 x]) (Kp := Below P0.heap.size) (S := fun ys => ys = zs) (Sp := fun pre => pre <+: zs ∧ pre ≠ []) (N := zs.length) (w0 := Q0) rfl (by omega) (gf := 23)
      (lb := #[.pointer (some ⟨bf, 0, none⟩), .pointer (some ⟨bw, 0, none⟩), .pointer (some ⟨bs, 0, none⟩), .pointer (some ⟨bh, 0, none⟩)]) rfl trivial (enters_of Try.func23 (by kernel_rfl) rfl)
      (HW0.out.cap.stops K zs HZ.out 5 (by omega) Q0 hbk) belowK_t (belowK_b (by omega)) (Below.refl _ _) (fun _ => rfl)
      (fun pre V => Boxed V P0.heap.size 3 (.int .i64 (pre.length : Int)) ∧ Below P0.heap.size P0 V)
      (fun c pre U => (c = .ret ∧ ¬ pre <+: zs) ∨ (c = .exit 4 ∧ (pre.length : Int) = sp ∧ Boxed U P0.heap.size 3 (.int .i64 (pre.length : Int)) ∧ Below P0.heap.size P0 U))
      (OwnFrom.and (Own.from (boxed_own _ _ (fun pre : List Int => .int .i64 (pre.length : Int))) _) (ownFrom_below (Nat.le_refl _) (by omega)))
      (fun c s A B row hs hg hr => hs.elim .inl (fun ⟨h1, h2, h3, h4⟩ => .inr ⟨h1, h2, (Own.from (boxed_own _ _ (fun pre : List Int => .int .i64 (pre.length : Int))) _) s A B row h3 hg hr, (ownFrom_below (β := List Int) (Nat.le_refl _) (by omega)) s A B row h4 hg hr⟩))
      ⟨bK, hbk⟩
      (fun x => { tmps := #[.int .i64 a, .int .i64 b, .slice A l.length c3, .int .i64 sp, .int .i64 inn, undef, undef, undef, .pointer (some ⟨w.heap.size, 0, none⟩), .pointer (some ⟨w.heap.size + 1, 0, none⟩), .pointer (some ⟨w.heap.size + 1 + 1, 0, none⟩), .pointer (some ⟨w1.heap.size, 0, none⟩), .slice Ai l.length ci, .pointer (some ⟨w3.heap.size, 0, none⟩), .bool true, u15, .pointer (some ⟨VV.heap.size, 0, none⟩), .pointer (some ⟨P0.heap.size, 0, none⟩), .int .i64 x, undef, .int .i64 a, .int .i64 b, .slice A l.length c3, .slice Az zs.length cz, .slice A l.length c3, .slice Ai l.length ci, .int .i64 a, .int .i64 b, .slice Ai l.length ci, .func (.func 23) #[] #[.pointer (some ⟨bf, 0, none⟩), .pointer (some ⟨bw, 0, none⟩), .pointer (some ⟨bs, 0, none⟩), .pointer (some ⟨bh, 0, none⟩)], .slice Ai l.length ci, .slice A l.length c3, .bool true, .func (.func 23) #[] #[.pointer (some ⟨bf, 0, none⟩), .pointer (some ⟨bw, 0, none⟩), .pointer (some ⟨bs, 0, none⟩), .pointer (some ⟨bh, 0, none⟩)], .bool false, .bool false, .bool true, .bool false, .bool false, u39, u40, u41, u42, u43, u44, u45, u46, u47, u48, .int .i64 0, .bool true, undef, undef, .func (.func 23) #[] #[.pointer (some ⟨bf, 0, none⟩), .pointer (some ⟨bw, 0, none⟩), .pointer (some ⟨bs, 0, none⟩), .pointer (some ⟨bh, 0, none⟩)], .int .i64 x, undef, undef, undef, undef, undef, undef, undef, undef, undef, undef, undef, undef, undef, undef, undef, undef, undef, undef, undef, undef, undef, undef, undef, undef, undef, undef, undef, undef, undef, undef, undef, undef, undef, undef, undef, undef, undef, undef, undef, undef, undef, undef, undef, undef, undef, undef, undef], defers := [] }) ?assign0 ?body0 ?done0 ?stop0
    case assign0 =>
      intro yl x V Kc hKc
      gi_wp2
      exact hKc
    case stop0 =>
      rintro D c pre V hD ⟨hp, _⟩ (⟨_, hn⟩ | ⟨rfl, hsp, hk, hB⟩) hK
      · exact absurd hp hn
      · gi_wp2
        exact HN0.out D _ V (by omega) hp.length_le (.inr hsp) hk hB hK
    case body0 =>
      as_aux_lemma =>
        rintro yl pre x V ⟨hk, hB⟩ hlt
        have HV := Aside0.mk (HW0.out.below hB)
        obtain ⟨ad, hea, hcx⟩ := Kd.at_int HV.out.rz (pre.length : Int) (by omega) (by omega)
        cases hea
        simp only [Int.toNat_natCast] at hcx
        have ck := hk.cell
        have fk := hk.frozen
        have cw := HV.out.cw
        have cs := HV.out.cs
        have c8 := HV.out.c8
        have c9 := HV.out.c9
        have c10 := HV.out.c10
        have f10 := HV.out.f10
        have q16 := (hB.cell (p := ⟨VV.heap.size, 0, none⟩) (by simp; omega)).trans bP.cell
        have hz : zs[pre.length]? = some (rd zs (pre.length : Int)) := by unfold rd; rw [Int.toNat_natCast, List.getD_eq_getElem?_getD, List.getElem?_eq_getElem hlt]; rfl
        obtain ⟨z, hzz⟩ : ∃ z, rd zs (pre.length : Int) = z := ⟨_, rfl⟩
        rw [hzz] at hcx hz
        have d1 : ¬ ((pre.length : Int) ≥ (zs.length : Int)) := by omega
        have HHK := Aside0.mk hk
        have HHB := Aside0.mk hB
        have HHZ := Aside0.mk hz
        clear hk hB hz hzz
        by_cases hzx : z = x
        case neg =>
          have hbq : (z == x) = false := beq_eq_false_iff_ne.mpr hzx
          gi_wp2
          exact ⟨KeepsOthers.setCell _ _ _, .inl ⟨rfl, fun hp => by have := prefix_get hp; rw [HHZ.out] at this; exact hzx (Option.some.inj this)⟩⟩
        case pos =>
          subst hzx
          have hw : wrap64 ((pre.length : Int) + 1) = (pre.length : Int) + 1 := by have := HSZ.out; unfold wrap64; omega
          have hcast : ((pre ++ [z]).length : Int) = (pre.length : Int) + 1 := by simp
          have HCA := Aside0.mk hcast
          clear hcast
          by_cases hi : (pre.length : Int) = inn
          case pos =>
            by_cases hs : (pre.length : Int) + 1 = sp
            case pos =>
              have hib : ((pre.length : Int) == inn) = true := by simpa using hi
              have hsb : ((pre.length : Int) + 1 == sp) = true := by simpa using hs
              have HSS := Aside0.mk hs
              clear hi hs
              gi_wp2_with (refine ⟨trivial, ?_⟩; gi_at_call 13; refine (CallsIn.inRound yl (callsIn_wide.2 (gone.calls K bf bw bs bh bt _ b Ac cc l zs _ cz _ HV.out.cap HZ.out HV.out.rz HV.out.hcz HSZ.out))).mono ?_; rintro e w7 ⟨rfl, hb7⟩; have H7 := Aside0.mk (HV.out.below hb7); have hk7 := boxed_low HHK.out hb7; have ck7 := hk7.cell; have fk7 := hk7.frozen; have c87 := H7.out.c8; have q167 := (hb7.cell (p := ⟨VV.heap.size, 0, none⟩) (World.block_lt_of_cell? _ _ q16)).trans q16; have c87s := fun v => (World.cell?_of_block (w := w7) (Below.heap_setCell w7 ⟨P0.heap.size, 0, none⟩ v w.heap.size (by simp; omega))).trans c87; have q167s := fun v => (World.cell?_of_block (w := w7) (Below.heap_setCell w7 ⟨P0.heap.size, 0, none⟩ v VV.heap.size (by simp; omega))).trans q167; have HB7 := Aside0.mk hb7; have HK7 := Aside0.mk hk7; clear hb7 hk7)
              exact ⟨(keepsOthers_below HB7.out).trans (KeepsOthers.setCell w7 _ _), .inr ⟨rfl, by rw [HCA.out]; exact HSS.out, by rw [HCA.out]; exact (HK7.out.set (.int .i64 ((pre.length : Int) + 1))), HHB.out.trans ((HB7.out.mono HHB.out.size).setCell (p := ⟨P0.heap.size, 0, none⟩) (Nat.le_refl _) _)⟩⟩
            case neg =>
              have hib : ((pre.length : Int) == inn) = true := by simpa using hi
              have hsb : ((pre.length : Int) + 1 == sp) = false := by simpa using hs
              have HSS := Aside0.mk hs
              clear hi hs
              gi_wp2_with (refine ⟨trivial, ?_⟩; gi_at_call 13; refine (CallsIn.inRound yl (callsIn_wide.2 (gone.calls K bf bw bs bh bt _ b Ac cc l zs _ cz _ HV.out.cap HZ.out HV.out.rz HV.out.hcz HSZ.out))).mono ?_; rintro e w7 ⟨rfl, hb7⟩; have H7 := Aside0.mk (HV.out.below hb7); have hk7 := boxed_low HHK.out hb7; have ck7 := hk7.cell; have fk7 := hk7.frozen; have c87 := H7.out.c8; have q167 := (hb7.cell (p := ⟨VV.heap.size, 0, none⟩) (World.block_lt_of_cell? _ _ q16)).trans q16; have c87s := fun v => (World.cell?_of_block (w := w7) (Below.heap_setCell w7 ⟨P0.heap.size, 0, none⟩ v w.heap.size (by simp; omega))).trans c87; have q167s := fun v => (World.cell?_of_block (w := w7) (Below.heap_setCell w7 ⟨P0.heap.size, 0, none⟩ v VV.heap.size (by simp; omega))).trans q167; have HB7 := Aside0.mk hb7; have HK7 := Aside0.mk hk7; clear hb7 hk7)
              exact ⟨(keepsOthers_below HB7.out).trans (KeepsOthers.setCell w7 _ _), ((HB7.out.mono HHB.out.size).setCell (p := ⟨P0.heap.size, 0, none⟩) (Nat.le_refl _) _), by rw [HCA.out]; exact (HK7.out.set (.int .i64 ((pre.length : Int) + 1))), HHB.out.trans ((HB7.out.mono HHB.out.size).setCell (p := ⟨P0.heap.size, 0, none⟩) (Nat.le_refl _) _)⟩
          case neg =>
            by_cases hs : (pre.length : Int) + 1 = sp
            case pos =>
              have hib : ((pre.length : Int) == inn) = false := by simpa using hi
              have hsb : ((pre.length : Int) + 1 == sp) = true := by simpa using hs
              have HSS := Aside0.mk hs
              clear hi hs
              have c8s := fun v => (World.cell?_of_block (w := V) (Below.heap_setCell V ⟨P0.heap.size, 0, none⟩ v w.heap.size (by simp; omega))).trans c8
              have q16s := fun v => (World.cell?_of_block (w := V) (Below.heap_setCell V ⟨P0.heap.size, 0, none⟩ v VV.heap.size (by simp; omega))).trans q16
              gi_wp2
              exact ⟨KeepsOthers.setCell V _ _, .inr ⟨rfl, by rw [HCA.out]; exact HSS.out, by rw [HCA.out]; exact (HHK.out.set (.int .i64 ((pre.length : Int) + 1))), HHB.out.trans ((Below.refl _ V).setCell (p := ⟨P0.heap.size, 0, none⟩) (Nat.le_refl _) _)⟩⟩
            case neg =>
              have hib : ((pre.length : Int) == inn) = false := by simpa using hi
              have hsb : ((pre.length : Int) + 1 == sp) = false := by simpa using hs
              have HSS := Aside0.mk hs
              clear hi hs
              have c8s := fun v => (World.cell?_of_block (w := V) (Below.heap_setCell V ⟨P0.heap.size, 0, none⟩ v w.heap.size (by simp; omega))).trans c8
              have q16s := fun v => (World.cell?_of_block (w := V) (Below.heap_setCell V ⟨P0.heap.size, 0, none⟩ v VV.heap.size (by simp; omega))).trans q16
              gi_wp2
              exact ⟨KeepsOthers.setCell V _ _, ((Below.refl _ V).setCell (p := ⟨P0.heap.size, 0, none⟩) (Nat.le_refl _) _), by rw [HCA.out]; exact (HHK.out.set (.int .i64 ((pre.length : Int) + 1))), HHB.out.trans ((Below.refl _ V).setCell (p := ⟨P0.heap.size, 0, none⟩) (Nat.le_refl _) _)⟩
    case done0 =>
      rintro D ys V hD hzs ⟨hk, hB⟩ hK
      have hzs' := hzs.symm
      subst hzs'
      exact HN0.out D _ V (by omega) (Nat.le_refl _) (.inl rfl) hk hB hK
  have HREST := Aside0.mk hRest
  clear hKc hRest
  gi_loopg [15] (l.length + 1) (fun kq v15 wr => ∃ j : Nat, v15 = .int .i64 (j : Int) ∧ Aside0 (j + kq = l.length + 1 ∧ j ≤ l.length) ∧ Aside0 (∀ k, ¬ (w1.heap.size + 1 ≤ k ∧ k < w2.heap.size) → wr.heap[k]? = P5.heap[k]?) ∧ Aside0 (Below w.heap.size w wr ∧ wr.heap.size = P5.heap.size) ∧ Aside0 (∃ xs : List Int, xs.length = l.length ∧ Kd.R (Kd.int .i64) 3 wr (w1.heap.size + 1) (fun _ => True) (.slice Ai l.length ci) xs))
  case atStart => exact ⟨0, rfl, ⟨by omega, by omega⟩, ⟨fun _ _ => rfl⟩, ⟨HbA, rfl⟩, ⟨l, rfl, rI⟩⟩
  case round =>
    as_aux_lemma =>
      obtain ⟨j, rfl, HJ, HV, HBL, HX⟩ := hrel
      obtain ⟨hj1, hj2⟩ := HJ.out
      by_cases hj : j < l.length
      case neg =>
        have d1 : ¬ ((j : Int) < (l.length : Int)) := by omega
        gi_wp2
        exact HREST.out _ _ _ _ _ _ _ _ _ _ _ _ (MK.out _ HV.out HBL.out.1 HBL.out.2)
      case pos =>
        obtain ⟨xs, hxl, hX⟩ := HX.out
        have HXL := Aside0.mk hxl
        have d1 : (j : Int) < (l.length : Int) := by omega
        obtain ⟨go, co, eo, gb, gl, cl, HG⟩ := Kd.R_form hX (by omega)
        injection eo with ea en ec
        subst ea
        subst ec
        have g2 : go < w2.heap.size := Kd.R_lt HV2.out go rfl
        obtain ⟨hx, hf⟩ := Kd.R_celln 0 hX (j : Int) (by omega) (by omega)
        have hP := Kd.R_putg hX (j : Int) a
        simp only [Int.toNat_natCast] at hx hf hP
        have HPP := Aside0.mk hP
        clear en hxl hP
        gi_wp2
        gi_roundg (l.length - j)
        case measure => omega
        case rel =>
          have hz0 := HZ0.out
          have hl0 := HL.out
          refine ⟨j + 1, ?_, ⟨by omega, by omega⟩, ⟨fun k hk => (Below.heap_setCell wr ⟨go, j, none⟩ (.int .i64 a) k (fun e => hk (by subst e; exact ⟨gb, g2⟩))).trans (HV.out k hk)⟩, ⟨HBL.out.1.setCell (p := ⟨go, j, none⟩) (by simp; omega) _, by simpa using HBL.out.2⟩, ⟨xs.set j a, by simpa using HXL.out, HPP.out.1⟩⟩
          rw [show wrap64 ((j : Int) + 1) = ((j + 1 : Nat) : Int) by unfold wrap64; omega]
end Go.Proofs.Ytdebllinaffceaa.M
