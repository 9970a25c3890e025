import Derived.Test.YtdebllinaffceaaHandGone
import Derived.Test.YtdebllinaffceaaMPayofflaw02Intact
import Derived.Test.YtdebllinaffceaaMPayoffref02Between
namespace Go.Proofs.Ytdebllinaffceaa.M
open Go.RowKit Go.Proofs.YtdebllinaffceaaW.PrintWords Go.Proofs.YtdebllinaffceaaW.PrintLast Go.Proofs.YtdebllinaffceaaW.PrintMore
attribute [local go_sem] Oper.semAt_some
attribute [local go_sem] max2_int min2_int max_two min_two max_three min_three max_four min_four
set_option linter.unusedVariables false
set_option linter.unusedSimpArgs false

theorem Cap.moved {F W : World} {bf bw bs bh bt : Nat} {f lim : Int} {A : Option Addr} {c : Nat} {l : List Int} {n : Nat} (h : Cap F bf bw bs bh bt f lim A c l) (hb : n ≤ bf ∧ n ≤ bw ∧ n ≤ bs ∧ n ≤ bh ∧ n ≤ bt)
    (hR : Kd.R (Kd.int .i64) 3 F n (fun _ => True) (.slice A l.length c) l) (hm : ∀ k, n ≤ k → k < F.heap.size → W.heap[k]? = F.heap[k]?) : Cap W bf bw bs bh bt f lim A c l := by
  have cel : ∀ (b : Nat) (v : Value), n ≤ b → F.cell? ⟨b, 0, none⟩ = some v → W.cell? ⟨b, 0, none⟩ = some v := fun b v hn hv => (World.cell?_of_block (w := F) (hm b hn (World.block_lt_of_cell? F ⟨b, 0, none⟩ hv))).trans hv
  have hR2 := Kd.R_move (w1 := W) (Kd.R_bound hR) (fun k hk => hm k hk.2.1 hk.2.2.1)
  exact ⟨cel _ _ hb.1 h.f, cel _ _ hb.2.1 h.w, cel _ _ hb.2.2.1 h.s, cel _ _ hb.2.2.2.1 h.h, cel _ _ hb.2.2.2.2 h.t, (Kd.R_reads' hR2).2.2, h.hc⟩

set_option maxHeartbeats 4000000 in
set_option maxRecDepth 100000 in
theorem cal_Between.callsF (f lim : Int) (A0 : Option Addr) (c0 : Nat) (l : List Int) (w : World) (hr0 : Kd.C (Kd.int .i64) w A0 l.length l) (hc0 : l.length ≤ c0) (hl : l.length < 17592186044416) :
    Calls Try.prog 11 #[.int .i64 f, .int .i64 lim, .slice A0 l.length c0] w fun e w' => ∃ (bf bw bs bh bt : Nat) (A : Option Addr) (c : Nat),
      e = .returned (.func (.func 23) #[] #[.pointer (some ⟨bf, 0, none⟩), .pointer (some ⟨bw, 0, none⟩), .pointer (some ⟨bs, 0, none⟩), .pointer (some ⟨bh, 0, none⟩)]) ∧ Cap w' bf bw bs bh bt (if f < 0 then 0 else f) lim A c l ∧ Below w.heap.size w w' ∧
      (w.heap.size ≤ bf ∧ w.heap.size ≤ bw ∧ w.heap.size ≤ bs ∧ w.heap.size ≤ bh ∧ w.heap.size ≤ bt) ∧ Kd.R (Kd.int .i64) 3 w' w.heap.size (fun _ => True) (.slice A l.length c) l := by
  have HR0 := Aside0.mk hr0
  have HC0 := Aside0.mk hc0
  clear hr0 hc0
  have hcl : slices_Clone_int_int.f l = some l := by simp [slices_Clone_int_int.f, hl]
  have ACL := Aside0.mk hcl
  clear hcl
  refine (callsIn_wide (n := 6)).1 ?_
  refine callsIn_of_wp Try.func11 rfl trivial ?_ rfl
  simp only [Try.ntmps11, List.size_toArray, List.length_cons, List.length_nil, Nat.reduceAdd, Nat.reduceSub, Array.replicate_succ, Array.replicate_zero, List.push_toArray, List.append_toArray, List.nil_append, List.cons_append]
  gi_wp2_with (first | (refine ⟨trivial, ?_⟩; gi_at_call 19; refine (callsIn_wide.2 (slices_Clone_int_int.calls A0 c0 l l _ ?s1 HC0.out ACL.out)).mono ?_; (case s1 => repeat (first | exact HR0.out | (with_reducible refine Kd.C_alloc ?_ _))); rintro e w1 ⟨v1, rfl, hv1, hb1⟩; obtain ⟨A, c, ev⟩ := Kd.R_slice hv1; subst ev) | (refine ⟨trivial, ?_⟩; gi_at_call 18; refine (callsIn_wide.2 (cal_walk.calls _ 1 A _ c _ _)).mono ?_; rintro e w' ⟨rfl, rfl⟩))
  all_goals
    go_ret
    refine ⟨_, _, _, _, by first | rfl | (simp; done), _, _, _, (Cap.made hb1 hv1).1, (Cap.made hb1 hv1).2, ?_, ?_⟩
    · have h1 := hb1.size
      simp only [World.size_alloc] at h1
      exact ⟨by omega, by omega, by omega, by omega, by omega⟩
    · exact Kd.R_lower (Kd.R_alloc (Kd.R_alloc (Kd.R_alloc (Kd.R_alloc hv1 _) _) _) _) (by simp)

/-- What holds before each pass. -/
structure Wk (w : World) (sp inn : Int) (zs : List Int) (Az : Option Addr) (cz bq bn : Nat) (bf bw bs bh bt : Nat) (f lim : Int) (Ac : Option Addr) (cc : Nat) (l : List Int) (P : World) : Prop where
  c8 : P.cell? ⟨w.heap.size, 0, none⟩ = some (.int .i64 sp)
  c9 : P.cell? ⟨w.heap.size + 1, 0, none⟩ = some (.int .i64 inn)
  c10 : P.cell? ⟨w.heap.size + 1 + 1, 0, none⟩ = some (.bool false)
  f10 : P.frozen? ⟨w.heap.size + 1 + 1, 0, none⟩ = false
  cw : P.cell? ⟨bn, 0, none⟩ = some (.slice Az zs.length cz)
  cs : P.cell? ⟨bq, 0, none⟩ = some (.func (.func 23) #[] #[.pointer (some ⟨bf, 0, none⟩), .pointer (some ⟨bw, 0, none⟩), .pointer (some ⟨bs, 0, none⟩), .pointer (some ⟨bh, 0, none⟩)])
  rz : Kd.C (Kd.int .i64) P Az zs.length zs
  hcz : zs.length ≤ cz
  cap : Cap P bf bw bs bh bt f lim Ac cc l
  bl : Below w.heap.size w P
  sz : w.heap.size + 3 ≤ P.heap.size
theorem Wk.below {w : World} {sp inn : Int} {zs : List Int} {Az : Option Addr} {cz bq bn : Nat} {bf bw bs bh bt : Nat} {f lim : Int} {Ac : Option Addr} {cc : Nat} {l : List Int} {P V : World} (h : Wk w sp inn zs Az cz bq bn bf bw bs bh bt f lim Ac cc l P) (hb : Below P.heap.size P V) : Wk w sp inn zs Az cz bq bn bf bw bs bh bt f lim Ac cc l V := by
  have cel : ∀ (b : Nat) (v : Value), P.cell? ⟨b, 0, none⟩ = some v → V.cell? ⟨b, 0, none⟩ = some v := fun b v hv => (hb.cell (p := ⟨b, 0, none⟩) (World.block_lt_of_cell? P ⟨b, 0, none⟩ hv)).trans hv
  exact ⟨cel _ _ h.c8, cel _ _ h.c9, cel _ _ h.c10, (hb.frozen (p := ⟨w.heap.size + 1 + 1, 0, none⟩) (World.block_lt_of_cell? P ⟨w.heap.size + 1 + 1, 0, none⟩ h.c10)).trans h.f10, cel _ _ h.cw, cel _ _ h.cs, Kd.C_below h.rz hb, h.hcz, h.cap.below hb, h.bl.trans (hb.mono (by have := h.sz; omega)), Nat.le_trans h.sz hb.size⟩

/-- A row written in place: what else lies in memory stays. -/
def OnlyRow (P V : World) (A : Option Addr) : Prop := V.heap.size = P.heap.size ∧ ∀ k, (∀ a, A = some a → k ≠ a.block) → V.heap[k]? = P.heap[k]?
end Go.Proofs.Ytdebllinaffceaa.M
