import Derived.Test.YtdebllinaffceaaMCalBusiness
import Derived.Test.YtdebllinaffceaaMSlicesCloneIntInt
import Derived.RangeFuncNested
import Derived.RangeFuncBound
import Derived.RangeFuncCalls
import Derived.RangeFuncLeaves
import Derived.Shelf.Abstract
import Derived.WalkKit
import Derived.OwnWalkIn
import Derived.TacticsInMore
import Derived.LoopNIn
import Derived.LoopIn
import Derived.Sort.LoopGhostIn
import Derived.Outline
namespace Go.Proofs.Ytdebllinaffceaa.M
open Go.RowKit Go.Proofs.YtdebllinaffceaaW.PrintWords Go.Proofs.YtdebllinaffceaaW.PrintLast Go.Proofs.YtdebllinaffceaaW.PrintMore
attribute [local go_sem] Oper.semAt_some
set_option linter.unusedVariables false
set_option linter.unusedSimpArgs false

theorem grown_drewN (W : World) (n : Nat) (row : Option Nat) : W.grownBy (W.drewN n) row := ⟨rfl, rfl, rfl, Nat.le_refl _, fun _ _ _ => rfl⟩


/-- Nothing ahead of n₁ has turned but what G allows. -/
def KeptFrom (n₁ : Nat) (G : Nat → Prop) (A B : World) : Prop := ∀ b, b < n₁ → ¬ G b → B.heap[b]? = A.heap[b]?
theorem KeptFrom.refl (n₁ : Nat) (G : Nat → Prop) (A : World) : KeptFrom n₁ G A A := fun _ _ _ => rfl
theorem KeptFrom.trans {n₁ : Nat} {G : Nat → Prop} {A B C : World} (h : KeptFrom n₁ G A B) (k : KeptFrom n₁ G B C) : KeptFrom n₁ G A C := fun b hb hg => (k b hb hg).trans (h b hb hg)
theorem KeptFrom.cell {n₁ : Nat} {G : Nat → Prop} {A B : World} (h : KeptFrom n₁ G A B) {p : Addr} (hb : p.block < n₁) (hg : ¬ G p.block) : B.cell? p = A.cell? p := World.cell?_of_block (w := A) (h p.block hb hg)


theorem cell_new_l (W : World) (v : Value) (t : TypeId) : (W.alloc (.cells #[v] t)).cell? ⟨W.heap.size, 0, none⟩ = some v ∧ (W.alloc (.cells #[v] t)).frozen? ⟨W.heap.size, 0, none⟩ = false :=
  ⟨(blk_cell (blk_new W (.cells #[v] t)) 0).trans rfl, blk_frozen (blk_new W (.cells #[v] t)) 0⟩
theorem cell_alloc_l {W : World} {a : Addr} {v : Value} (o : Obj) (h : W.cell? a = some v) : (W.alloc o).cell? a = some v := cell_kept h (World.grownBy_alloc W o none) (fun r e => by cases e)
theorem frozen_alloc_l {W : World} {a : Addr} {v : Value} (o : Obj) (h : W.cell? a = some v) (hf : W.frozen? a = false) : (W.alloc o).frozen? a = false := (frozen_kept h (World.grownBy_alloc W o none) (fun r e => by cases e)).trans hf



/-- A later world has the earlier one's blocks. -/
def Agree (w0 W : World) : Prop := ∀ k, k < w0.heap.size → W.heap[k]? = w0.heap[k]?
theorem Agree.refl (w : World) : Agree w w := fun _ _ => rfl
theorem Agree.cell {w0 W : World} (h : Agree w0 W) {p : Addr} {v : Value} (hv : w0.cell? p = some v) : W.cell? p = some v := (World.cell?_of_block (w := w0) (h p.block (World.block_lt_of_cell? w0 p hv))).trans hv
theorem Agree.drewN {w0 W : World} (h : Agree w0 W) (n : Nat) : Agree w0 (W.drewN n) := h
theorem Agree.row {w0 W : World} (h : Agree w0 W) {A : Option Addr} {l : List Int} (r : Kd.C (Kd.int .i64) w0 A l.length l) : Kd.C (Kd.int .i64) W A l.length l := (Kd.heap_int .i64).C h r
theorem Agree.below {w0 W W' : World} (h : Agree w0 W) (hb : Below W.heap.size W W') (hs : w0.heap.size ≤ W.heap.size) : Agree w0 W' := fun k hk => (hb.block k (by omega)).trans (h k hk)
theorem Agree.kept {w0 W W' : World} {n₁ : Nat} {G : Nat → Prop} (h : Agree w0 W) (hk : KeptFrom n₁ G W W') (h1 : w0.heap.size ≤ n₁) (h2 : ∀ b, b < w0.heap.size → ¬ G b) : Agree w0 W' := fun k hlt => (hk k (by omega) (h2 k hlt)).trans (h k hlt)

/-- The business days from one on, up lim another, as long as the calendar goes. -/
def cal_walk.upto : Nat → List Int → Int → Int → Option (List Int)
  | 0, _, _, _ => none
  | k + 1, l, lim, day => (cal_inside.f day).bind fun t => if t = true then (if day < lim then ((cal_Business.f k day l).bind fun b => (cal_walk.upto k l lim (wrap64 (day + 1))).bind fun xs => some (if b = true then day :: xs else xs)) else some []) else some []

theorem cal_Between1.calls (bt : Nat) (d lim : Int) (w : World) (h : w.cell? ⟨bt, 0, none⟩ = some (.int .i64 lim)) : Calls Try.prog 20 #[.int .i64 d, .pointer (some ⟨bt, 0, none⟩)] w fun e w' => e = .returned (.bool (decide (d < lim))) ∧ Drawn0 w w' := by
  go_enter Try.func20, Try.ntmps20
  go_wp2
  go_ret
  exact ⟨by first | rfl | (simp; done) | (simp [*]; done), by repeat (first | exact Drawn0.refl _ | apply Drawn0.step)⟩

/-- The iterator that Between gives, and what it has captured. -/
structure Cap (w0 : World) (bf bw bs bh bt : Nat) (from_ lim : Int) (A : Option Addr) (c : Nat) (l : List Int) : Prop where
  f : w0.cell? ⟨bf, 0, none⟩ = some (.int .i64 from_)
  w : w0.cell? ⟨bw, 0, none⟩ = some (.func (.func 20) #[] #[.pointer (some ⟨bt, 0, none⟩)])
  s : w0.cell? ⟨bs, 0, none⟩ = some (.int .i64 1)
  h : w0.cell? ⟨bh, 0, none⟩ = some (.slice A l.length c)
  t : w0.cell? ⟨bt, 0, none⟩ = some (.int .i64 lim)
  r : Kd.C (Kd.int .i64) w0 A l.length l
  hc : l.length ≤ c

set_option maxHeartbeats 4000000 in
set_option maxRecDepth 100000 in
theorem cal_walk1.in_ (n : Nat) (hn : 2 ≤ n) (l bf bw bs bh bt : Nat) (from_ lim : Int) (A : Option Addr) (c : Nat) (lst : List Int) (w0 : World) (hCap : Cap w0 bf bw bs bh bt from_ lim A c lst) (K : Nat) (xs : List Int) (hx : cal_walk.upto K lst lim from_ = some xs)
    (Kp : World → World → Prop) (hKp : ∀ W W', Kp W W' → Agree w0 W → Agree w0 W') (J Jx : List Int → World → Prop) (hJ : ∀ s W m, J s W → J s (W.drewN m))
    (hY : ∀ pre x W, J pre W → pre.length < xs.length → YieldAt Fence.wide (n - 1) Try.prog l #[.int .i64 x] W fun e W' =>
      (e = .returned (.bool true) ∧ J (pre ++ [x]) W' ∧ Kp W W') ∨ (e = .returned (.bool false) ∧ Jx (pre ++ [x]) W'))
    (W : World) (hC : Agree w0 W) (h0 : J [] W) :
    CallsIn Fence.wide n Try.prog 23 #[.func (.yield l) #[] #[], .pointer (some ⟨bf, 0, none⟩), .pointer (some ⟨bw, 0, none⟩), .pointer (some ⟨bs, 0, none⟩), .pointer (some ⟨bh, 0, none⟩)] W fun e W' => (∃ v, e = .returned v) ∧
      ((∃ ys, ys = xs ∧ J ys W') ∨ (∃ pre, (pre <+: xs ∧ pre ≠ []) ∧ Jx pre W')) := by
  refine callsIn_of_wp Try.func23 rfl trivial ?_ rfl
  simp only [Try.ntmps23, List.size_toArray, List.length_cons, List.length_nil, Nat.reduceAdd, Nat.reduceSub, Array.replicate_succ, Array.replicate_zero, List.push_toArray, List.append_toArray, List.nil_append, List.cons_append]
  have HX := Aside0.mk hx
  have HCAP := Aside0.mk hCap
  have HC := Aside0.mk hC
  have h0f := hC.cell hCap.f
  clear hx hC hCap
  gi_wp2
  gi_loopg [6] K (fun kq v6 wr => ∃ (day : Int) (pre rest : List Int), v6 = .int .i64 day ∧ Aside0 (cal_walk.upto kq lst lim day = some rest) ∧ Aside0 (xs = pre ++ rest) ∧ Aside0 (Agree w0 wr) ∧ Aside0 (J pre wr))
  case atStart => exact ⟨from_, [], xs, rfl, HX, ⟨rfl⟩, HC, ⟨h0⟩⟩
  case round =>
    obtain ⟨day, pre, rest, rfl, HA, HP, HC1, HJ⟩ := hrel
    clear h0f
    cases gk with
    | zero => exact absurd HA.out (by simp [cal_walk.upto])
    | succ k =>
      have H := HA.out
      clear HA
      simp only [cal_walk.upto] at H
      replace H := Option.bind_eq_some_iff.mp H
      obtain ⟨t, A10, H⟩ := H
      have A1 := Aside0.mk A10
      clear A10
      have hcw := HC1.out.cell HCAP.out.w
      have hcs := HC1.out.cell HCAP.out.s
      have hch := HC1.out.cell HCAP.out.h
      have HT := Aside0.mk (HC1.out.cell HCAP.out.t)
      cases t with
      | false =>
        rw [if_neg (by decide)] at H
        obtain rfl := Option.some.inj H
        gi_wp2_with (first | (refine ⟨trivial, fun _ => (by omega), ?_⟩; gi_at_call 15; refine (callsIn_wide.2 (cal_inside.calls day false _ A1.out)).mono ?_; rintro e w' ⟨rfl, ⟨nd, rfl⟩⟩))
        refine ⟨fun _ h => (by cases h), ?_⟩
        gi_wp2
        go_end0
        exact ⟨⟨_, rfl⟩, .inl ⟨pre, by have := HP.out; simp at this; exact this.symm, hJ _ _ _ HJ.out⟩⟩
      | true =>
        rw [if_pos rfl] at H
        by_cases c1 : day < lim
        case neg =>
          rw [if_neg c1] at H
          have d1 : decide (day < lim) = false := decide_eq_false c1
          obtain rfl := Option.some.inj H
          gi_wp2_with (first | (refine ⟨trivial, fun _ => (by omega), ?_⟩; gi_at_call 15; refine (callsIn_wide.2 (cal_inside.calls day true _ A1.out)).mono ?_; rintro e w' ⟨rfl, ⟨nd, rfl⟩⟩) | (refine ⟨trivial, fun _ => (by omega), ?_⟩; gi_at_call 20; refine (callsIn_wide.2 (cal_Between1.calls bt day lim _ (by exact HT.out))).mono ?_; rintro e w' ⟨rfl, ⟨nd2, rfl⟩⟩; rw [d1]))
          go_end0
          exact ⟨⟨_, rfl⟩, .inl ⟨pre, by have := HP.out; simp at this; exact this.symm, hJ _ _ _ HJ.out⟩⟩
        rw [if_pos c1] at H
        have d1 : decide (day < lim) = true := decide_eq_true c1
        replace H := Option.bind_eq_some_iff.mp H
        obtain ⟨b, A20, H⟩ := H
        have A2 := Aside0.mk A20
        clear A20
        replace H := Option.bind_eq_some_iff.mp H
        obtain ⟨ys, A30, H⟩ := H
        have A3 := Aside0.mk A30
        clear A30
        obtain rfl := Option.some.inj H
        clear H
        cases b with
        | false =>
          gi_wp2_with (first | (refine ⟨trivial, fun _ => (by omega), ?_⟩; gi_at_call 15; refine (callsIn_wide.2 (cal_inside.calls day true _ A1.out)).mono ?_; rintro e w' ⟨rfl, ⟨nd, rfl⟩⟩) | (refine ⟨trivial, fun _ => (by omega), ?_⟩; gi_at_call 20; refine (callsIn_wide.2 (cal_Between1.calls bt day lim _ (by exact HT.out))).mono ?_; rintro e w' ⟨rfl, ⟨nd2, rfl⟩⟩; rw [d1]) | (refine ⟨trivial, fun _ => (by omega), ?_⟩; gi_at_call 8; refine (callsIn_wide.2 (cal_Business.calls k day _ _ lst false _ ?s1 HCAP.out.hc A2.out)).mono ?_; (case s1 => repeat (first | exact HC1.out.row HCAP.out.r | (with_reducible refine Kd.C_drewN ?_ _))); rintro e w' ⟨rfl, ⟨nd3, rfl⟩⟩))
          refine ⟨fun _ h => (by cases h), ?_⟩
          gi_wp2
          gi_roundg k
          case measure => omega
          case rel => exact ⟨wrap64 (day + 1), pre, ys, (by first | rfl | (simp; done)), A3, ⟨by have := HP.out; simpa using this⟩, ⟨HC1.out.drewN _⟩, ⟨hJ _ _ _ HJ.out⟩⟩
        | true =>
          gi_wp2_with (first | (refine ⟨trivial, fun _ => (by omega), ?_⟩; gi_at_call 15; refine (callsIn_wide.2 (cal_inside.calls day true _ A1.out)).mono ?_; rintro e w' ⟨rfl, ⟨nd, rfl⟩⟩) | (refine ⟨trivial, fun _ => (by omega), ?_⟩; gi_at_call 20; refine (callsIn_wide.2 (cal_Between1.calls bt day lim _ (by exact HT.out))).mono ?_; rintro e w' ⟨rfl, ⟨nd2, rfl⟩⟩; rw [d1]) | (refine ⟨trivial, fun _ => (by omega), ?_⟩; gi_at_call 8; refine (callsIn_wide.2 (cal_Business.calls k day _ _ lst true _ ?s1 HCAP.out.hc A2.out)).mono ?_; (case s1 => repeat (first | exact HC1.out.row HCAP.out.r | (with_reducible refine Kd.C_drewN ?_ _))); rintro e w' ⟨rfl, ⟨nd3, rfl⟩⟩; obtain ⟨fn_, tmps_, assign_, body_, hy, hR⟩ := hY pre day (wr.drewN (nd + nd2 + nd3)) (hJ _ _ _ HJ.out) (by rw [HP.out]; simp)))
          refine ⟨fun _ => by omega, hR.mono ?_⟩
          rintro e W3 (⟨rfl, hJ3, hk3⟩ | ⟨rfl, hJx3⟩)
          · have HC3 := Aside0.mk (hKp _ _ hk3 (HC1.out.drewN _))
            clear hcw hcs hch
            have hcs := HC3.out.cell HCAP.out.s
            gi_wp2
            gi_roundg k
            case measure => omega
            case rel => exact ⟨wrap64 (day + 1), pre ++ [day], ys, (by first | rfl | (simp; done)), A3, ⟨by have := HP.out; simpa using this⟩, HC3, ⟨hJ3⟩⟩
          · gi_wp2
            refine bodyPost_ret (results_none rfl _ _ _) rfl ?_
            exact ⟨⟨_, rfl⟩, .inr ⟨pre ++ [day], ⟨⟨ys, by have := HP.out; simp at this; simp [this]⟩, by simp⟩, hJx3⟩⟩

end Go.Proofs.Ytdebllinaffceaa.M
