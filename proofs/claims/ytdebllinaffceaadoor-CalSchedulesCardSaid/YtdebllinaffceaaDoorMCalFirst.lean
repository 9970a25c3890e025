import Derived.Test.YtdebllinaffceaaDoorVWords
import Derived.Test.YtdebllinaffceaaDoorMx0
import Derived.Test.YtdebllinaffceaaDoorMCalInside
import Derived.RangeFuncNested
import Derived.RangeFuncBound
import Derived.RangeFuncCalls
import Derived.RangeFuncLeaves
import Derived.Shelf.Abstract
import Derived.WalkKit
import Derived.OwnWalkIn
import Derived.TacticsInMore
import Derived.LoopNIn
import Derived.LoopIn
import Derived.Sort.LoopGhostIn
import Derived.Outline
import Derived.Test.YtdebllinaffceaaDoorMCalBusiness
namespace Go.Proofs.YtdebllinaffceaaDoor.M
open Go.RowKit Go.Proofs.YtdebllinaffceaaDoorW.PrintWords Go.Proofs.YtdebllinaffceaaDoorW.PrintLast Go.Proofs.YtdebllinaffceaaDoorW.PrintMore
attribute [local go_sem] Oper.semAt_some
attribute [local go_sem] max2_int min2_int max_two min_two max_three min_three max_four min_four   -- for this text's walks alone
set_option linter.unusedVariables false
set_option linter.unusedSimpArgs false

/-! ### cal_first: function 57 -/
/-- What a walk's closure has captured, and the list behind it. -/
structure Caps (w0 W : World) (bf bw bs bh : Nat) (day step : Int) (A : Option Addr) (c : Nat) (l : List Int) : Prop where
 f : W.cell? ⟨bf, 0, none⟩ = some (.int .i64 day)
 w : W.cell? ⟨bw, 0, none⟩ = some (.func (.func 65) #[] #[])
 s : W.cell? ⟨bs, 0, none⟩ = some (.int .i64 step)
 h : W.cell? ⟨bh, 0, none⟩ = some (.slice A l.length c)
 b : ∀ k, k < w0.heap.size → W.heap[k]? = w0.heap[k]?
theorem Caps.drewN {w0 W : World} {bf bw bs bh : Nat} {day step : Int} {A : Option Addr} {c : Nat} {l : List Int} (h : Caps w0 W bf bw bs bh day step A c l) (n : Nat) : Caps w0 (W.drewN n) bf bw bs bh day step A c l :=
 ⟨h.f, h.w, h.s, h.h, h.b⟩
theorem Caps.row {w0 W : World} {bf bw bs bh : Nat} {day step : Int} {A : Option Addr} {c : Nat} {l : List Int} (h : Caps w0 W bf bw bs bh day step A c l) (r : Kd.C (Kd.int .i64) w0 A l.length l) : Kd.C (Kd.int .i64) W A l.length l :=
 (Kd.heap_int .i64).C h.b r
/-- The business days from one on, step by step, as long as the calendar goes. -/
def cal_walk.all : Nat → Int → List Int → Int → Option (List Int)
 | 0, _, _, _ => none
 | k + 1, step, l, day => (cal_inside.f day).bind fun t => if t = true then ((cal_Business.f k day l).bind fun b => (cal_walk.all k step l (wrap64 (day + step))).bind fun xs => some (if b = true then day :: xs else xs)) else some []

theorem cal_first1.calls (d : Int) (w : World) : Calls Tryd.prog 65 #[.int .i64 d] w fun e w' => e = .returned (.bool true) ∧ Drawn0 w w' := by
 go_enter Tryd.func65, Tryd.ntmps65
 go_wp2
 go_ret
 exact ⟨by first | rfl | (simp; done) | (simp [*]; done), by repeat (first | exact Drawn0.refl _ | apply Drawn0.step)⟩

theorem grown_drewN (W : World) (n : Nat) (row : Option Nat) : W.grownBy (W.drewN n) row := ⟨rfl, rfl, rfl, Nat.le_refl _, fun _ _ _ => rfl⟩

set_option maxHeartbeats 4000000 in
set_option maxRecDepth 100000 in
theorem cal_walk1.in_ (n : Nat) (hn : 2 ≤ n) (l bf bw bs bh : Nat) (from_ step : Int) (A : Option Addr) (c : Nat) (lst : List Int) (hc : lst.length ≤ c) (w0 : World) (hr0 : Kd.C (Kd.int .i64) w0 A lst.length lst) (K : Nat) (xs : List Int) (hx : cal_walk.all K step lst from_ = some xs)
  (Kp : World → World → Prop) (hKp : ∀ W W', Kp W W' → Caps w0 W bf bw bs bh from_ step A c lst → Caps w0 W' bf bw bs bh from_ step A c lst) (J Jx : List Int → World → Prop) (hJ : ∀ s W m, J s W → J s (W.drewN m))
  (hY : ∀ pre x W, J pre W → pre.length < xs.length → YieldAt Fence.wide (n - 1) Tryd.prog l #[.int .i64 x] W fun e W' =>
   (e = .returned (.bool true) ∧ J (pre ++ [x]) W' ∧ Kp W W') ∨ (e = .returned (.bool false) ∧ Jx (pre ++ [x]) W'))
  (W : World) (hC : Caps w0 W bf bw bs bh from_ step A c lst) (h0 : J [] W) :
  CallsIn Fence.wide n Tryd.prog 66 #[.func (.yield l) #[] #[], .pointer (some ⟨bf, 0, none⟩), .pointer (some ⟨bw, 0, none⟩), .pointer (some ⟨bs, 0, none⟩), .pointer (some ⟨bh, 0, none⟩)] W fun e W' => (∃ v, e = .returned v) ∧
   ((∃ ys, ys = xs ∧ J ys W') ∨ (∃ pre, (pre <+: xs ∧ pre ≠ []) ∧ Jx pre W')) := by
 refine callsIn_of_wp Tryd.func66 rfl trivial ?_ rfl
 simp only [Tryd.ntmps66, List.size_toArray, List.length_cons, List.length_nil, Nat.reduceAdd, Nat.reduceSub, Array.replicate_succ, Array.replicate_zero, List.push_toArray, List.append_toArray, List.nil_append, List.cons_append]
 have HX := Aside0.mk hx
 have HR0 := Aside0.mk hr0
 clear hr0
 have HC := Aside0.mk hC
 have h0f := hC.f
 clear hx hC
 gi_wp2
 gi_loopg [6] K (fun kq v6 wr => ∃ (day : Int) (pre rest : List Int), v6 = .int .i64 day ∧ Aside0 (cal_walk.all kq step lst day = some rest) ∧ Aside0 (xs = pre ++ rest) ∧ Aside0 (Caps w0 wr bf bw bs bh from_ step A c lst) ∧ Aside0 (J pre wr))
 case atStart => exact ⟨from_, [], xs, rfl, HX, ⟨rfl⟩, HC, ⟨h0⟩⟩
 case round =>
  obtain ⟨day, pre, rest, rfl, HA, HP, HC1, HJ⟩ := hrel
  clear h0f
  cases gk with
  | zero => exact absurd HA.out (by simp [cal_walk.all])
  | succ k =>
   have H := HA.out
   clear HA
   simp only [cal_walk.all] at H
   replace H := Option.bind_eq_some_iff.mp H
   obtain ⟨t, A10, H⟩ := H
   have A1 := Aside0.mk A10
   clear A10
   have hcw := HC1.out.w
   have hcs := HC1.out.s
   have hch := HC1.out.h
   cases t with
   | false =>
    rw [if_neg (by decide)] at H
    obtain rfl := Option.some.inj H
    gi_wp2_with (first | (refine ⟨trivial, fun _ => (by omega), ?_⟩; gi_at_call 48; refine (callsIn_wide.2 (cal_inside.calls day false _ A1.out)).mono ?_; rintro e w' ⟨rfl, ⟨nd, rfl⟩⟩))
    refine ⟨fun _ h => (by cases h), ?_⟩
    gi_wp2
    go_end0
    exact ⟨⟨_, rfl⟩, .inl ⟨pre, by have := HP.out; simp at this; exact this.symm, hJ _ _ _ HJ.out⟩⟩
   | true =>
    rw [if_pos rfl] at H
    replace H := Option.bind_eq_some_iff.mp H
    obtain ⟨b, A20, H⟩ := H
    have A2 := Aside0.mk A20
    clear A20
    replace H := Option.bind_eq_some_iff.mp H
    obtain ⟨ys, A30, H⟩ := H
    have A3 := Aside0.mk A30
    clear A30
    obtain rfl := Option.some.inj H
    clear H
    cases b with
    | false =>
     gi_wp2_with (first | (refine ⟨trivial, fun _ => (by omega), ?_⟩; gi_at_call 48; refine (callsIn_wide.2 (cal_inside.calls day true _ A1.out)).mono ?_; rintro e w' ⟨rfl, ⟨nd, rfl⟩⟩) | (refine ⟨trivial, fun _ => (by omega), ?_⟩; gi_at_call 65; refine (callsIn_wide.2 (cal_first1.calls day _)).mono ?_; rintro e w' ⟨rfl, ⟨nd2, rfl⟩⟩) | (refine ⟨trivial, fun _ => (by omega), ?_⟩; gi_at_call 31; refine (callsIn_wide.2 (cal_Business.calls k day _ _ lst false _ ?s1 hc A2.out)).mono ?_; (case s1 => repeat (first | exact HC1.out.row HR0.out | (with_reducible refine Kd.C_drewN ?_ _))); rintro e w' ⟨rfl, ⟨nd3, rfl⟩⟩))
     refine ⟨fun _ h => (by cases h), ?_⟩
     gi_wp2
     gi_roundg k
     case measure => omega
     case rel => exact ⟨wrap64 (day + step), pre, ys, (by first | rfl | (simp; done)), A3, ⟨by have := HP.out; simpa using this⟩, ⟨HC1.out.drewN _⟩, ⟨hJ _ _ _ HJ.out⟩⟩
    | true =>
     gi_wp2_with (first | (refine ⟨trivial, fun _ => (by omega), ?_⟩; gi_at_call 48; refine (callsIn_wide.2 (cal_inside.calls day true _ A1.out)).mono ?_; rintro e w' ⟨rfl, ⟨nd, rfl⟩⟩) | (refine ⟨trivial, fun _ => (by omega), ?_⟩; gi_at_call 65; refine (callsIn_wide.2 (cal_first1.calls day _)).mono ?_; rintro e w' ⟨rfl, ⟨nd2, rfl⟩⟩) | (refine ⟨trivial, fun _ => (by omega), ?_⟩; gi_at_call 31; refine (callsIn_wide.2 (cal_Business.calls k day _ _ lst true _ ?s1 hc A2.out)).mono ?_; (case s1 => repeat (first | exact HC1.out.row HR0.out | (with_reducible refine Kd.C_drewN ?_ _))); rintro e w' ⟨rfl, ⟨nd3, rfl⟩⟩; obtain ⟨fn_, tmps_, assign_, body_, hy, hR⟩ := hY pre day (wr.drewN (nd + nd2 + nd3)) (hJ _ _ _ HJ.out) (by rw [HP.out]; simp)))
     refine ⟨fun _ => by omega, hR.mono ?_⟩
     rintro e W3 (⟨rfl, hJ3, hk3⟩ | ⟨rfl, hJx3⟩)
     ·have HC3 := Aside0.mk (hKp _ _ hk3 (HC1.out.drewN _))
      clear hcw hcs hch
      have hcs := HC3.out.s
      gi_wp2
      gi_roundg k
      case measure => omega
      case rel => exact ⟨wrap64 (day + step), pre ++ [day], ys, (by first | rfl | (simp; done)), A3, ⟨by have := HP.out; simpa using this⟩, HC3, ⟨hJ3⟩⟩
     ·gi_wp2
      refine bodyPost_ret (results_none rfl _ _ _) rfl ?_
      exact ⟨⟨_, rfl⟩, .inr ⟨pre ++ [day], ⟨⟨ys, by have := HP.out; simp at this; simp [this]⟩, by simp⟩, hJx3⟩⟩

/-- Nothing ahead of n₁ has turned but what G allows. -/
def KeptFrom (n₁ : Nat) (G : Nat → Prop) (A B : World) : Prop := ∀ b, b < n₁ → ¬ G b → B.heap[b]? = A.heap[b]?
theorem KeptFrom.refl (n₁ : Nat) (G : Nat → Prop) (A : World) : KeptFrom n₁ G A A := fun _ _ _ => rfl
theorem KeptFrom.trans {n₁ : Nat} {G : Nat → Prop} {A B C : World} (h : KeptFrom n₁ G A B) (k : KeptFrom n₁ G B C) : KeptFrom n₁ G A C := fun b hb hg => (k b hb hg).trans (h b hb hg)
theorem KeptFrom.cell {n₁ : Nat} {G : Nat → Prop} {A B : World} (h : KeptFrom n₁ G A B) {p : Addr} (hb : p.block < n₁) (hg : ¬ G p.block) : B.cell? p = A.cell? p := World.cell?_of_block (w := A) (h p.block hb hg)

theorem cal_walk.calls (f s : Int) (A : Option Addr) (n c : Nat) (w : World) : Calls Tryd.prog 64 #[.int .i64 f, .int .i64 s, .slice A n c, .func (.func 65) #[] #[]] w fun e w' =>
  e = .returned (.func (.func 66) #[] #[.pointer (some ⟨w.heap.size, 0, none⟩), .pointer (some ⟨w.heap.size + 1 + 1 + 1, 0, none⟩), .pointer (some ⟨w.heap.size + 1, 0, none⟩), .pointer (some ⟨w.heap.size + 1 + 1, 0, none⟩)]) ∧
  w' = (((w.alloc (.cells #[.int .i64 f] 3)).alloc (.cells #[.int .i64 s] 3)).alloc (.cells #[.slice A n c] 45)).alloc (.cells #[.func (.func 65) #[] #[]] 44) := by
 go_enter Tryd.func64, Tryd.ntmps64
 go_wp2
 go_ret
 exact ⟨by first | rfl | (simp; done), rfl⟩

theorem cell_new_l (W : World) (v : Value) (t : TypeId) : (W.alloc (.cells #[v] t)).cell? ⟨W.heap.size, 0, none⟩ = some v ∧ (W.alloc (.cells #[v] t)).frozen? ⟨W.heap.size, 0, none⟩ = false :=
 ⟨(blk_cell (blk_new W (.cells #[v] t)) 0).trans rfl, blk_frozen (blk_new W (.cells #[v] t)) 0⟩
theorem cell_alloc_l {W : World} {a : Addr} {v : Value} (o : Obj) (h : W.cell? a = some v) : (W.alloc o).cell? a = some v := cell_kept h (World.grownBy_alloc W o none) (fun r e => by cases e)
theorem frozen_alloc_l {W : World} {a : Addr} {v : Value} (o : Obj) (h : W.cell? a = some v) (hf : W.frozen? a = false) : (W.alloc o).frozen? a = false := (frozen_kept h (World.grownBy_alloc W o none) (fun r e => by cases e)).trans hf

def cal_first.f (k : Nat) (a0 : Int) (a1 : Int) (l2 : List Int) : Option (Int) := (cal_walk.all k a1 l2 a0).bind fun xs => some (match xs with | [] => -1 | x :: _ => x)
def hd1 (xs : List Int) : Int := match xs with | [] => -1 | x :: _ => x
theorem KeptFrom.caps {w0 A B : World} {day step : Int} {R : Option Addr} {c : Nat} {l : List Int} {n₁ : Nat} {G : Nat → Prop} {bf bw bs bh : Nat} (h : KeptFrom n₁ G A B) (hC : Caps w0 A bf bw bs bh day step R c l)
  (h1 : bf < n₁ ∧ ¬ G bf) (h2 : bw < n₁ ∧ ¬ G bw) (h3 : bs < n₁ ∧ ¬ G bs) (h4 : bh < n₁ ∧ ¬ G bh) (h5 : ∀ k, k < w0.heap.size → k < n₁ ∧ ¬ G k) : Caps w0 B bf bw bs bh day step R c l :=
 ⟨(h.cell (p := ⟨bf, 0, none⟩) h1.1 h1.2).trans hC.f, (h.cell (p := ⟨bw, 0, none⟩) h2.1 h2.2).trans hC.w, (h.cell (p := ⟨bs, 0, none⟩) h3.1 h3.2).trans hC.s, (h.cell (p := ⟨bh, 0, none⟩) h4.1 h4.2).trans hC.h, fun k hk => (h k (h5 k hk).1 (h5 k hk).2).trans (hC.b k hk)⟩
theorem Caps.below {w0 A B : World} {day step : Int} {R : Option Addr} {c : Nat} {l : List Int} {bf bw bs bh : Nat} (hC : Caps w0 A bf bw bs bh day step R c l) (h : Below A.heap.size A B) (hw : w0.heap.size ≤ A.heap.size) : Caps w0 B bf bw bs bh day step R c l := by
 have lt : ∀ (b o : Nat) (v : Value), A.cell? ⟨b, o, none⟩ = some v → b < A.heap.size := fun b o v hv => World.block_lt_of_cell? A ⟨b, o, none⟩ hv
 exact ⟨(h.cell (p := ⟨bf, 0, none⟩) (lt _ _ _ hC.f)).trans hC.f, (h.cell (p := ⟨bw, 0, none⟩) (lt _ _ _ hC.w)).trans hC.w, (h.cell (p := ⟨bs, 0, none⟩) (lt _ _ _ hC.s)).trans hC.s, (h.cell (p := ⟨bh, 0, none⟩) (lt _ _ _ hC.h)).trans hC.h, fun k hk => (h.block k (by omega)).trans (hC.b k hk)⟩

set_option maxHeartbeats 4000000 in
set_option maxRecDepth 100000 in
theorem cal_first.calls (k : Nat) (a0 : Int) (a1 : Int) (A2 : Option Addr) (c2 : Nat) (l2 : List Int) (r : Int) (w : World) (hr2 : Kd.C (Kd.int .i64) w A2 l2.length l2) (hc2 : l2.length ≤ c2) (h : cal_first.f k a0 a1 l2 = some r) :
  Calls Tryd.prog 57 #[.int .i64 a0, .int .i64 a1, .slice A2 l2.length c2] w fun e w' => e = .returned (.int .i64 r) ∧ Below w.heap.size w w' := by
 obtain ⟨xs, hx, hr⟩ := Option.bind_eq_some_iff.mp h
 have hr' : hd1 xs = r := Option.some.inj hr
 clear h hr
 have HXS := Aside0.mk hx
 have HR := Aside0.mk hr'
 have HR2 := Aside0.mk hr2
 clear hx hr' hr2
 refine (callsIn_wide (n := 6)).1 ?_
 refine callsIn_of_wp_marks Tryd.func57 rfl trivial ?_ rfl
 simp only [Tryd.ntmps57, List.size_toArray, List.length_cons, List.length_nil, Nat.reduceAdd, Nat.reduceSub, Array.replicate_succ, Array.replicate_zero, List.push_toArray, List.append_toArray, List.nil_append, List.cons_append]
 gi_wp2_with (refine ⟨trivial, ?_⟩; gi_at_call 64; refine (callsIn_wide.2 (cal_walk.calls a0 a1 A2 _ c2 _)).mono ?_; rintro e w' ⟨rfl, rfl⟩)
 obtain ⟨W1, hW1⟩ : ∃ W1, (((((w.alloc (.cells #[.int .i64 0] 3)).alloc (.cells #[.int .i64 a0] 3)).alloc (.cells #[.int .i64 a1] 3)).alloc (.cells #[.slice A2 l2.length c2] 45)).alloc (.cells #[.func (.func 65) #[] #[]] 44)) = W1 := ⟨_, rfl⟩
 have hB0 : Below w.heap.size w W1 := by
  rw [← hW1]; exact (((((Below.refl _ w).alloc (Nat.le_refl _) _).alloc (by simp) _).alloc (by simp; omega) _).alloc (by simp; omega) _).alloc (by simp; omega) _
 have hsz : W1.heap.size = w.heap.size + 5 := by rw [← hW1]; simp
 have hc0 : W1.cell? ⟨w.heap.size, 0, none⟩ = some (.int .i64 0) := by
  rw [← hW1]
  exact cell_alloc_l _ (cell_alloc_l _ (cell_alloc_l _ (cell_alloc_l _ (cell_new_l w (.int .i64 0) 3).1)))
 have hf0 : W1.frozen? ⟨w.heap.size, 0, none⟩ = false := by
  rw [← hW1]
  have g := cell_new_l w (.int .i64 0) 3
  exact frozen_alloc_l _ (cell_alloc_l _ (cell_alloc_l _ (cell_alloc_l _ g.1))) (frozen_alloc_l _ (cell_alloc_l _ (cell_alloc_l _ g.1)) (frozen_alloc_l _ (cell_alloc_l _ g.1) (frozen_alloc_l _ g.1 g.2)))
 have hCaps : Caps w W1 (w.heap.size + 1) (w.heap.size + 1 + 1 + 1 + 1) (w.heap.size + 1 + 1) (w.heap.size + 1 + 1 + 1) a0 a1 A2 c2 l2 := by
  rw [← hW1]
  refine ⟨?_, ?_, ?_, ?_, fun k hk => ?_⟩
  ·have g := (cell_new_l (w.alloc (.cells #[.int .i64 0] 3)) (.int .i64 a0) 3).1
   rw [World.size_alloc] at g
   exact cell_alloc_l _ (cell_alloc_l _ (cell_alloc_l _ g))
  ·have g := (cell_new_l ((((w.alloc (.cells #[.int .i64 0] 3)).alloc (.cells #[.int .i64 a0] 3)).alloc (.cells #[.int .i64 a1] 3)).alloc (.cells #[.slice A2 l2.length c2] 45)) (.func (.func 65) #[] #[]) 44).1
   simp only [World.size_alloc] at g
   exact g
  ·have g := (cell_new_l ((w.alloc (.cells #[.int .i64 0] 3)).alloc (.cells #[.int .i64 a0] 3)) (.int .i64 a1) 3).1
   simp only [World.size_alloc] at g
   exact cell_alloc_l _ (cell_alloc_l _ g)
  ·have g := (cell_new_l (((w.alloc (.cells #[.int .i64 0] 3)).alloc (.cells #[.int .i64 a0] 3)).alloc (.cells #[.int .i64 a1] 3)) (.slice A2 l2.length c2) 45).1
   simp only [World.size_alloc] at g
   exact cell_alloc_l _ g
  ·rw [hW1]; exact hB0.block k hk
 rw [hW1]
 clear hW1
 have HSZ := Aside0.mk hsz
 refine wpIn_rangeFunc_ownF (α := Int) (encs := fun x => #[.int .i64 x]) (Kp := KeptFrom (w.heap.size + 5) (fun b => b = w.heap.size)) (S := fun ys => ys = xs) (Sp := fun pre => pre <+: xs ∧ pre ≠ []) (N := xs.length) (w0 := W1) rfl (by omega) (gf := 66)
  (lb := #[.pointer (some ⟨w.heap.size + 1, 0, none⟩), .pointer (some ⟨w.heap.size + 1 + 1 + 1 + 1, 0, none⟩), .pointer (some ⟨w.heap.size + 1 + 1, 0, none⟩), .pointer (some ⟨w.heap.size + 1 + 1 + 1, 0, none⟩)]) rfl trivial (enters_of Tryd.func66 (by kernel_rfl) rfl)
  (fun l J Jx W hW hJ hJx hY h0 => cal_walk1.in_ 5 (by omega) l _ _ _ _ a0 a1 A2 c2 l2 hc2 w HR2.out k xs HXS.out _ (fun A B hk hC => hk.caps hC ⟨by omega, by omega⟩ ⟨by omega, by omega⟩ ⟨by omega, by omega⟩ ⟨by omega, by omega⟩ (fun k hk => ⟨by omega, by omega⟩)) J Jx
   (fun s A m hs => hJ s A _ none hs (grown_drewN A m none) (fun r e => by cases e)) hY W (hCaps.below hW (by have := HSZ.out; omega)) h0)
  (fun h k => h.trans k)
  (fun W l o o' hl ho _ _ b hb hg => ?hKb) (Below.refl _ _) (fun _ => rfl)
  (fun pre W => (pre = [] ∧ W.cell? ⟨w.heap.size, 0, none⟩ = some (.int .i64 0) ∧ W.frozen? ⟨w.heap.size, 0, none⟩ = false) ∧ Below w.heap.size w W)
  (fun c pre W => (c = .ret ∧ W.cell? ⟨w.heap.size, 0, none⟩ = some (.int .i64 (hd1 pre))) ∧ Below w.heap.size w W)
  (OwnFrom.and (Own.from (fun s A B row hs hg hr => ⟨hs.1, cell_kept hs.2.1 hg hr, (frozen_kept hs.2.1 hg hr).trans hs.2.2⟩) _) (ownFrom_below (Nat.le_refl _) (by have := HSZ.out; omega)))
  (fun c => OwnFrom.and (Own.from (fun s A B row hs hg hr => ⟨hs.1, cell_kept hs.2 hg hr⟩) _) (ownFrom_below (Nat.le_refl _) (by have := HSZ.out; omega)))
  ⟨⟨rfl, hc0, hf0⟩, hB0⟩
  (fun x => { tmps := #[.int .i64 a0, .int .i64 a1, .slice A2 l2.length c2, undef, undef, undef, .pointer (some ⟨w.heap.size, 0, none⟩), .int .i64 x, .int .i64 a0, .int .i64 a1, .slice A2 l2.length c2,
     .func (.func 66) #[] #[.pointer (some ⟨w.heap.size + 1, 0, none⟩), .pointer (some ⟨w.heap.size + 1 + 1 + 1 + 1, 0, none⟩), .pointer (some ⟨w.heap.size + 1 + 1, 0, none⟩), .pointer (some ⟨w.heap.size + 1 + 1 + 1, 0, none⟩)], .int .i64 x, undef], defers := [] }) ?assign ?body ?done ?stop
 case hKb =>
  have hlt : b ≠ l := by have := HSZ.out; omega
  exact (grownBy_putObj' W l o').block b (by have := (Array.getElem?_eq_some_iff.1 ho).1; have := HSZ.out; omega) (by intro e; exact hlt (Option.some.inj e))
 case assign =>
  intro l x W K hK
  gi_wp2
  exact hK
 case body =>
  rintro l pre x W ⟨⟨rfl, hc, hf⟩, hB⟩ _
  gi_wp2
  exact ⟨KeepsOthers.setCell _ _ _, ⟨rfl, World.cell?_setCell_same' _ _ _ (by rw [hc]; rfl)⟩, hB.setCell (p := ⟨w.heap.size, 0, none⟩) (Nat.le_refl _) _⟩
 case done =>
  rintro D ys W hD rfl ⟨⟨hp, hc, hf⟩, hB⟩ hK
  gi_wp2
  have hK' := (KeepsOthers.setCell W ⟨w.heap.size, 0, none⟩ (.int .i64 (-1))).same D _ hK rfl
  refine ⟨by simp, .inl ⟨_, _, rfl, run_takeDeferred hK', ?_⟩⟩
  have hc5 := cell_kept (World.cell?_setCell_same' W ⟨w.heap.size, 0, none⟩ (.int .i64 (-1)) (by rw [hc]; rfl)) (grownBy_putObj' _ D (.deferred none)) (fun r e => by cases e; exact ⟨_, hK', rfl⟩)
  refine ⟨.int .i64 (-1), ?_, by rw [← HR.out, hp]; rfl, (hB.setCell (p := ⟨w.heap.size, 0, none⟩) (Nat.le_refl _) _).trans (belowK_b (w := w) (Nat.le_refl _) _ D _ _ (by have := HSZ.out; omega) hK' rfl rfl)⟩
  simp [results, Tryd.f57, go_sem, hc5]
 case stop =>
  rintro D c pre W hD hpre ⟨⟨rfl, hc⟩, hB⟩ hK
  gi_wp2
  refine ⟨by simp, .inl ⟨_, _, rfl, run_takeDeferred hK, ?_⟩⟩
  have hc5 := cell_kept hc (grownBy_putObj' _ D (.deferred none)) (fun r e => by cases e; exact ⟨_, hK, rfl⟩)
  have hh : hd1 pre = r := by
   rw [← HR.out]
   obtain ⟨⟨t, rfl⟩, hne⟩ := hpre
   cases pre with
   | nil => exact absurd rfl hne
   | cons x p => rfl
  refine ⟨.int .i64 (hd1 pre), ?_, by rw [hh], hB.trans (belowK_b (w := w) (Nat.le_refl _) W D _ _ (by have := HSZ.out; omega) hK rfl rfl)⟩
  simp [results, Tryd.f57, go_sem, hc5]

end Go.Proofs.YtdebllinaffceaaDoor.M
