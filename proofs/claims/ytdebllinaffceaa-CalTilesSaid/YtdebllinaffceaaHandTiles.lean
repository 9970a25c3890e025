import Derived.Test.YtdebllinaffceaaHandTilesA
import Derived.Shelf.RegionOpen
namespace Go.Proofs.Ytdebllinaffceaa.M
open Go.RowKit Go.Proofs.YtdebllinaffceaaW.PrintWords Go.Proofs.YtdebllinaffceaaW.PrintLast Go.Proofs.YtdebllinaffceaaW.PrintMore
attribute [local go_sem] Oper.semAt_some
set_option linter.unusedVariables false
set_option linter.unusedSimpArgs false
set_option maxHeartbeats 4000000 in
set_option maxRecDepth 100000 in
theorem tiles_good (K : Nat) (a b c : Int) (A : Option Addr) (c3 : Nat) (l xs ys : List Int) (w : World) (hr : Kd.C (Kd.int .i64) w A l.length l) (hc3 : l.length ≤ c3) (hl : l.length < 17592186044416)
    (hown : payofflaw02_own.f K l = some l) (hab : a ≤ b) (hbc : b ≤ c)
    (hx : cal_walk.upto K l b (if a < 0 then 0 else a) = some xs) (hy : cal_walk.upto K l c (if b < 0 then 0 else b) = some ys) (hz : cal_walk.upto K l c (if a < 0 then 0 else a) = some (xs ++ ys))
    (hxg : ∀ d ∈ xs, a ≤ d ∧ d < b ∧ cal_Business.f K d l = some true) (hyg : ∀ d ∈ ys, b ≤ d ∧ d < c ∧ cal_Business.f K d l = some true) (hsz : (xs ++ ys).length < 17592186044416)
    (hbus : ∀ d, ∃ t, cal_Business.f K d l = some t) (hB0 : cal_Business.f K 0 [] = some true) (hm : payofflaw02_missing.f K a c (xs ++ ys) l = some true) :
    Calls Try.prog 5 #[.int .i64 a, .int .i64 b, .int .i64 c, .slice A l.length c3] w fun e w' => e = .returned (.bool true) ∧ Below w.heap.size w w' := by
  have HR := Aside0.mk hr
  have HC3 := Aside0.mk hc3
  have HL := Aside0.mk hl
  have HOWN := Aside0.mk hown
  have HX := Aside0.mk hx
  have HY := Aside0.mk hy
  have HZ := Aside0.mk hz
  have HXG := Aside0.mk hxg
  have HYG := Aside0.mk hyg
  have HSZ := Aside0.mk hsz
  have HB0 := Aside0.mk hB0
  have HM := Aside0.mk hm
  have HBUS := Aside0.mk hbus
  clear hr hc3 hl hown hx hy hz hxg hyg hsz hB0 hm hbus
  obtain ⟨i0, hi, hz0, hz1, hz2⟩ := info_parts try_info3
  have I0 := Aside0.mk hi
  have I1 := Aside0.mk hz0
  have I2 := Aside0.mk hz1
  have I3 := Aside0.mk hz2
  clear hi hz0 hz1 hz2
  have hmx : Try.prog.follows .mixedOrders = true := by kernel_rfl
  refine (callsIn_wide (n := 6)).1 ?_
  refine callsIn_of_wp_marks Try.func5 rfl trivial ?_ rfl
  simp only [Try.ntmps5, List.size_toArray, List.length_cons, List.length_nil, Nat.reduceAdd, Nat.reduceSub, Array.replicate_succ, Array.replicate_zero, List.push_toArray, List.append_toArray, List.nil_append, List.cons_append]
  have qf := eql_func_nil
  have qg := neq_func_nil
  have e1 : ¬ (a > b) := by omega
  have e2 : ¬ (b > c) := by omega
  gi_wp2_with (refine ⟨trivial, ?_⟩; gi_at_call 11; refine (callsIn_wide.2 (cal_Between.calls 0 7 none 0 [] _ (Kd.C_nil _ _) (Nat.le_refl _) (by simp))).mono ?_; rintro e w1 ⟨bf, bw, bs, bh, bt, A9, c9, rfl, hcap, hb1⟩; have PA := Aside0.mk ((Par.first w a b c A c3 l).next hb1 (by simp)); have q4 := PA.out.c4; have q5 := PA.out.c5; have q6 := PA.out.c6; have q7 := PA.out.c7; clear hcap hb1)
  rename_i hcond Kc hKc
  have hR : ∀ (Av1 : Option Addr) (cv1 : Nat) (bf1 bw1 bs1 bh1 bt1 : Nat) (A91 : Option Addr) (c91 : Nat) (W : World), Par w a b c A c3 l W → Cap W bf1 bw1 bs1 bh1 bt1 (if a < 0 then 0 else a) b A91 c91 l → Kc { tmps := #[.int .i64 a, .int .i64 b, .int .i64 c, .slice A l.length c3, .pointer (some ⟨w.heap.size, 0, none⟩), .pointer (some ⟨w.heap.size + 1, 0, none⟩), .pointer (some ⟨w.heap.size + 1 + 1, 0, none⟩), .pointer (some ⟨w.heap.size + 1 + 1 + 1, 0, none⟩), .pointer (some ⟨w.heap.size + 1 + 1 + 1 + 1, 0, none⟩), .func (.func 23) #[] #[.pointer (some ⟨bf, 0, none⟩), .pointer (some ⟨bw, 0, none⟩), .pointer (some ⟨bs, 0, none⟩), .pointer (some ⟨bh, 0, none⟩)], .func (.func 23) #[] #[.pointer (some ⟨bf1, 0, none⟩), .pointer (some ⟨bw1, 0, none⟩), .pointer (some ⟨bs1, 0, none⟩), .pointer (some ⟨bh1, 0, none⟩)], undef, undef, undef, undef, undef, undef, undef, .func (.func 23) #[] #[.pointer (some ⟨bf, 0, none⟩), .pointer (some ⟨bw, 0, none⟩), .pointer (some ⟨bs, 0, none⟩), .pointer (some ⟨bh, 0, none⟩)], .func (.func 23) #[] #[.pointer (some ⟨bf, 0, none⟩), .pointer (some ⟨bw, 0, none⟩), .pointer (some ⟨bs, 0, none⟩), .pointer (some ⟨bh, 0, none⟩)], .bool false, .bool false, .int .i64 a, .int .i64 b, .bool (decide (b < a)), .bool (decide (b < a)), .bool (decide (b < a)), .int .i64 b, .int .i64 c, .bool (decide (c < b)), .bool (decide (b < a) || decide (c < b)), undef, undef, .int .i64 a, .int .i64 b, .slice A l.length c3, .slice Av1 l.length cv1, .func (.func 23) #[] #[.pointer (some ⟨bf1, 0, none⟩), .pointer (some ⟨bw1, 0, none⟩), .pointer (some ⟨bs1, 0, none⟩), .pointer (some ⟨bh1, 0, none⟩)], undef, undef, undef, undef, undef, undef, undef, undef, undef, undef, undef, undef, undef, undef, undef, undef, undef, undef, undef, undef, undef, undef, undef, undef, undef, undef, undef, undef, undef, undef, undef, undef, undef, undef, undef, undef, undef, undef, undef, undef, undef, undef, undef, undef, undef, undef, undef, undef, undef, undef, undef, undef, undef, undef, undef, undef, undef, undef, undef, undef, undef, undef, undef, undef, undef, undef, undef, undef, undef, undef, undef, undef, undef, undef, undef, undef, undef, undef, undef, undef, undef, undef, undef, undef, undef, undef, undef, undef, undef, undef, undef, undef], defers := [] } W := by
    as_aux_lemma =>
      intro Av1 cv1 bf1 bw1 bs1 bh1 bt1 A91 c91 W PA C1
      clear q4 q5 q6 q7
      have PA := Aside0.mk PA; have q4 := PA.out.c4; have q5 := PA.out.c5; have q6 := PA.out.c6; have q7 := PA.out.c7
      have C1 := Aside0.mk C1
      refine hKc _ _ ?_
      clear hKc
      gi_wp2
      rename_i Kc hKc
      have hR : ∀ (Av2 : Option Addr) (cv2 : Nat) (bf2 bw2 bs2 bh2 bt2 : Nat) (A92 : Option Addr) (c92 : Nat) (W : World), Par w a b c A c3 l W → Cap W bf1 bw1 bs1 bh1 bt1 (if a < 0 then 0 else a) b A91 c91 l → Cap W bf2 bw2 bs2 bh2 bt2 (if b < 0 then 0 else b) c A92 c92 l → Kc { tmps := #[.int .i64 a, .int .i64 b, .int .i64 c, .slice A l.length c3, .pointer (some ⟨w.heap.size, 0, none⟩), .pointer (some ⟨w.heap.size + 1, 0, none⟩), .pointer (some ⟨w.heap.size + 1 + 1, 0, none⟩), .pointer (some ⟨w.heap.size + 1 + 1 + 1, 0, none⟩), .pointer (some ⟨w.heap.size + 1 + 1 + 1 + 1, 0, none⟩), .func (.func 23) #[] #[.pointer (some ⟨bf, 0, none⟩), .pointer (some ⟨bw, 0, none⟩), .pointer (some ⟨bs, 0, none⟩), .pointer (some ⟨bh, 0, none⟩)], .func (.func 23) #[] #[.pointer (some ⟨bf1, 0, none⟩), .pointer (some ⟨bw1, 0, none⟩), .pointer (some ⟨bs1, 0, none⟩), .pointer (some ⟨bh1, 0, none⟩)], .func (.func 23) #[] #[.pointer (some ⟨bf2, 0, none⟩), .pointer (some ⟨bw2, 0, none⟩), .pointer (some ⟨bs2, 0, none⟩), .pointer (some ⟨bh2, 0, none⟩)], undef, undef, undef, undef, undef, undef, .func (.func 23) #[] #[.pointer (some ⟨bf, 0, none⟩), .pointer (some ⟨bw, 0, none⟩), .pointer (some ⟨bs, 0, none⟩), .pointer (some ⟨bh, 0, none⟩)], .func (.func 23) #[] #[.pointer (some ⟨bf, 0, none⟩), .pointer (some ⟨bw, 0, none⟩), .pointer (some ⟨bs, 0, none⟩), .pointer (some ⟨bh, 0, none⟩)], .bool false, .bool false, .int .i64 a, .int .i64 b, .bool (decide (b < a)), .bool (decide (b < a)), .bool (decide (b < a)), .int .i64 b, .int .i64 c, .bool (decide (c < b)), .bool (decide (b < a) || decide (c < b)), undef, undef, .int .i64 a, .int .i64 b, .slice A l.length c3, .slice Av1 l.length cv1, .func (.func 23) #[] #[.pointer (some ⟨bf1, 0, none⟩), .pointer (some ⟨bw1, 0, none⟩), .pointer (some ⟨bs1, 0, none⟩), .pointer (some ⟨bh1, 0, none⟩)], .int .i64 b, .int .i64 c, .slice A l.length c3, .slice Av2 l.length cv2, .func (.func 23) #[] #[.pointer (some ⟨bf2, 0, none⟩), .pointer (some ⟨bw2, 0, none⟩), .pointer (some ⟨bs2, 0, none⟩), .pointer (some ⟨bh2, 0, none⟩)], undef, undef, undef, undef, undef, undef, undef, undef, undef, undef, undef, undef, undef, undef, undef, undef, undef, undef, undef, undef, undef, undef, undef, undef, undef, undef, undef, undef, undef, undef, undef, undef, undef, undef, undef, undef, undef, undef, undef, undef, undef, undef, undef, undef, undef, undef, undef, undef, undef, undef, undef, undef, undef, undef, undef, undef, undef, undef, undef, undef, undef, undef, undef, undef, undef, undef, undef, undef, undef, undef, undef, undef, undef, undef, undef, undef, undef, undef, undef, undef, undef, undef, undef, undef, undef, undef, undef], defers := [] } W := by
        as_aux_lemma =>
          intro Av2 cv2 bf2 bw2 bs2 bh2 bt2 A92 c92 W PA C1 C2
          clear q4 q5 q6 q7
          have PA := Aside0.mk PA; have q4 := PA.out.c4; have q5 := PA.out.c5; have q6 := PA.out.c6; have q7 := PA.out.c7
          have C1 := Aside0.mk C1
          have C2 := Aside0.mk C2
          refine hKc _ _ ?_
          clear hKc
          gi_wp2
          rename_i Kc hKc
          have hR : ∀ (Av3 : Option Addr) (cv3 : Nat) (bf3 bw3 bs3 bh3 bt3 : Nat) (A93 : Option Addr) (c93 : Nat) (W : World), Par w a b c A c3 l W → Cap W bf1 bw1 bs1 bh1 bt1 (if a < 0 then 0 else a) b A91 c91 l → Cap W bf2 bw2 bs2 bh2 bt2 (if b < 0 then 0 else b) c A92 c92 l → Cap W bf3 bw3 bs3 bh3 bt3 (if a < 0 then 0 else a) c A93 c93 l → Kc { tmps := #[.int .i64 a, .int .i64 b, .int .i64 c, .slice A l.length c3, .pointer (some ⟨w.heap.size, 0, none⟩), .pointer (some ⟨w.heap.size + 1, 0, none⟩), .pointer (some ⟨w.heap.size + 1 + 1, 0, none⟩), .pointer (some ⟨w.heap.size + 1 + 1 + 1, 0, none⟩), .pointer (some ⟨w.heap.size + 1 + 1 + 1 + 1, 0, none⟩), .func (.func 23) #[] #[.pointer (some ⟨bf, 0, none⟩), .pointer (some ⟨bw, 0, none⟩), .pointer (some ⟨bs, 0, none⟩), .pointer (some ⟨bh, 0, none⟩)], .func (.func 23) #[] #[.pointer (some ⟨bf1, 0, none⟩), .pointer (some ⟨bw1, 0, none⟩), .pointer (some ⟨bs1, 0, none⟩), .pointer (some ⟨bh1, 0, none⟩)], .func (.func 23) #[] #[.pointer (some ⟨bf2, 0, none⟩), .pointer (some ⟨bw2, 0, none⟩), .pointer (some ⟨bs2, 0, none⟩), .pointer (some ⟨bh2, 0, none⟩)], .func (.func 23) #[] #[.pointer (some ⟨bf3, 0, none⟩), .pointer (some ⟨bw3, 0, none⟩), .pointer (some ⟨bs3, 0, none⟩), .pointer (some ⟨bh3, 0, none⟩)], undef, undef, undef, undef, undef, .func (.func 23) #[] #[.pointer (some ⟨bf, 0, none⟩), .pointer (some ⟨bw, 0, none⟩), .pointer (some ⟨bs, 0, none⟩), .pointer (some ⟨bh, 0, none⟩)], .func (.func 23) #[] #[.pointer (some ⟨bf, 0, none⟩), .pointer (some ⟨bw, 0, none⟩), .pointer (some ⟨bs, 0, none⟩), .pointer (some ⟨bh, 0, none⟩)], .bool false, .bool false, .int .i64 a, .int .i64 b, .bool (decide (b < a)), .bool (decide (b < a)), .bool (decide (b < a)), .int .i64 b, .int .i64 c, .bool (decide (c < b)), .bool (decide (b < a) || decide (c < b)), undef, undef, .int .i64 a, .int .i64 b, .slice A l.length c3, .slice Av1 l.length cv1, .func (.func 23) #[] #[.pointer (some ⟨bf1, 0, none⟩), .pointer (some ⟨bw1, 0, none⟩), .pointer (some ⟨bs1, 0, none⟩), .pointer (some ⟨bh1, 0, none⟩)], .int .i64 b, .int .i64 c, .slice A l.length c3, .slice Av2 l.length cv2, .func (.func 23) #[] #[.pointer (some ⟨bf2, 0, none⟩), .pointer (some ⟨bw2, 0, none⟩), .pointer (some ⟨bs2, 0, none⟩), .pointer (some ⟨bh2, 0, none⟩)], .int .i64 a, .int .i64 c, .slice A l.length c3, .slice Av3 l.length cv3, .func (.func 23) #[] #[.pointer (some ⟨bf3, 0, none⟩), .pointer (some ⟨bw3, 0, none⟩), .pointer (some ⟨bs3, 0, none⟩), .pointer (some ⟨bh3, 0, none⟩)], undef, undef, undef, undef, undef, undef, undef, undef, undef, undef, undef, undef, undef, undef, undef, undef, undef, undef, undef, undef, undef, undef, undef, undef, undef, undef, undef, undef, undef, undef, undef, undef, undef, undef, undef, undef, undef, undef, undef, undef, undef, undef, undef, undef, undef, undef, undef, undef, undef, undef, undef, undef, undef, undef, undef, undef, undef, undef, undef, undef, undef, undef, undef, undef, undef, undef, undef, undef, undef, undef, undef, undef, undef, undef, undef, undef, undef, undef, undef, undef, undef, undef], defers := [] } W := by
            as_aux_lemma =>
              intro Av3 cv3 bf3 bw3 bs3 bh3 bt3 A93 c93 W PA C1 C2 C3
              clear q4 q5 q6 q7
              have PA := Aside0.mk PA; have q4 := PA.out.c4; have q5 := PA.out.c5; have q6 := PA.out.c6; have q7 := PA.out.c7
              have C1 := Aside0.mk C1
              have C2 := Aside0.mk C2
              have C3 := Aside0.mk C3
              refine hKc _ _ ?_
              clear hKc
              gi_wp2
              have bL := Boxed.new W 27 (.slice none 0 0)
              have hbk : Below W.heap.size W (W.alloc (.cells #[.slice none 0 0] 27)) := (Below.refl _ W).alloc (Nat.le_refl _) _
              obtain ⟨V1, hV1⟩ : ∃ V1, W.alloc (.cells #[.slice none 0 0] 27) = V1 := ⟨_, rfl⟩
              have hV1s : V1.heap.size = W.heap.size + 1 := by rw [← hV1]; simp
              rw [hV1] at bL hbk ⊢
              clear hV1
              have hWs : w.heap.size + 5 ≤ W.heap.size := PA.out.sz
              clear q4 q5 q6 q7
              refine wpIn_rangeFunc_ownF (α := Int) (encs := fun x => #[.int .i64 x]) (Kp := Below W.heap.size) (S := fun zs => zs = xs) (Sp := fun pre => pre <+: xs ∧ pre ≠ []) (N := xs.length) (w0 := V1) rfl (by omega) (gf := 23)
                (lb := #[.pointer (some ⟨bf1, 0, none⟩), .pointer (some ⟨bw1, 0, none⟩), .pointer (some ⟨bs1, 0, none⟩), .pointer (some ⟨bh1, 0, none⟩)]) rfl trivial (enters_of Try.func23 (by kernel_rfl) rfl)
                (C1.out.stops K xs HX.out 5 (by omega) V1 hbk) belowK_t (belowK_b (by omega)) (Below.refl _ _) (fun _ => rfl)
                (fun pre V => ((∃ v, Boxed V W.heap.size 27 v ∧ V.ownsRow W.heap.size 3 1 v pre.length ((pre).map (Value.int .i64)) ∧ True) ∧ Below W.heap.size W V) ∧ True)
                (fun _ pre _ => ¬ pre <+: xs)
                (OwnFrom.and (OwnFrom.and (Own.from (holdsRow_own W.heap.size W.heap.size 27 3 1 (fun pre : List Int => pre.length) (fun pre : List Int => (pre).map (Value.int .i64)) (fun _ _ => True)) _) (ownFrom_below (Nat.le_refl _) (by omega))) (fun _ _ _ _ hs _ _ => hs))
                (fun _ _ _ _ _ hs _ _ => hs)
                ⟨⟨⟨_, bL, World.ownsRow_nil _ _ _ _, trivial⟩, hbk⟩, trivial⟩
                (fun x => { tmps := #[.int .i64 a, .int .i64 b, .int .i64 c, .slice A l.length c3, .pointer (some ⟨w.heap.size, 0, none⟩), .pointer (some ⟨w.heap.size + 1, 0, none⟩), .pointer (some ⟨w.heap.size + 1 + 1, 0, none⟩), .pointer (some ⟨w.heap.size + 1 + 1 + 1, 0, none⟩), .pointer (some ⟨w.heap.size + 1 + 1 + 1 + 1, 0, none⟩), .func (.func 23) #[] #[.pointer (some ⟨bf, 0, none⟩), .pointer (some ⟨bw, 0, none⟩), .pointer (some ⟨bs, 0, none⟩), .pointer (some ⟨bh, 0, none⟩)], .func (.func 23) #[] #[.pointer (some ⟨bf1, 0, none⟩), .pointer (some ⟨bw1, 0, none⟩), .pointer (some ⟨bs1, 0, none⟩), .pointer (some ⟨bh1, 0, none⟩)], .func (.func 23) #[] #[.pointer (some ⟨bf2, 0, none⟩), .pointer (some ⟨bw2, 0, none⟩), .pointer (some ⟨bs2, 0, none⟩), .pointer (some ⟨bh2, 0, none⟩)], .func (.func 23) #[] #[.pointer (some ⟨bf3, 0, none⟩), .pointer (some ⟨bw3, 0, none⟩), .pointer (some ⟨bs3, 0, none⟩), .pointer (some ⟨bh3, 0, none⟩)], .pointer (some ⟨W.heap.size, 0, none⟩), .int .i64 x, undef, undef, undef, .func (.func 23) #[] #[.pointer (some ⟨bf, 0, none⟩), .pointer (some ⟨bw, 0, none⟩), .pointer (some ⟨bs, 0, none⟩), .pointer (some ⟨bh, 0, none⟩)], .func (.func 23) #[] #[.pointer (some ⟨bf, 0, none⟩), .pointer (some ⟨bw, 0, none⟩), .pointer (some ⟨bs, 0, none⟩), .pointer (some ⟨bh, 0, none⟩)], .bool false, .bool false, .int .i64 a, .int .i64 b, .bool (decide (b < a)), .bool (decide (b < a)), .bool (decide (b < a)), .int .i64 b, .int .i64 c, .bool (decide (c < b)), .bool (decide (b < a) || decide (c < b)), undef, undef, .int .i64 a, .int .i64 b, .slice A l.length c3, .slice Av1 l.length cv1, .func (.func 23) #[] #[.pointer (some ⟨bf1, 0, none⟩), .pointer (some ⟨bw1, 0, none⟩), .pointer (some ⟨bs1, 0, none⟩), .pointer (some ⟨bh1, 0, none⟩)], .int .i64 b, .int .i64 c, .slice A l.length c3, .slice Av2 l.length cv2, .func (.func 23) #[] #[.pointer (some ⟨bf2, 0, none⟩), .pointer (some ⟨bw2, 0, none⟩), .pointer (some ⟨bs2, 0, none⟩), .pointer (some ⟨bh2, 0, none⟩)], .int .i64 a, .int .i64 c, .slice A l.length c3, .slice Av3 l.length cv3, .func (.func 23) #[] #[.pointer (some ⟨bf3, 0, none⟩), .pointer (some ⟨bw3, 0, none⟩), .pointer (some ⟨bs3, 0, none⟩), .pointer (some ⟨bh3, 0, none⟩)], .func (.func 23) #[] #[.pointer (some ⟨bf1, 0, none⟩), .pointer (some ⟨bw1, 0, none⟩), .pointer (some ⟨bs1, 0, none⟩), .pointer (some ⟨bh1, 0, none⟩)], .bool false, .bool false, .func (.func 23) #[] #[.pointer (some ⟨bf2, 0, none⟩), .pointer (some ⟨bw2, 0, none⟩), .pointer (some ⟨bs2, 0, none⟩), .pointer (some ⟨bh2, 0, none⟩)], .bool false, .bool false, .bool false, .func (.func 23) #[] #[.pointer (some ⟨bf3, 0, none⟩), .pointer (some ⟨bw3, 0, none⟩), .pointer (some ⟨bs3, 0, none⟩), .pointer (some ⟨bh3, 0, none⟩)], .bool false, .bool false, .func (.func 23) #[] #[.pointer (some ⟨bf1, 0, none⟩), .pointer (some ⟨bw1, 0, none⟩), .pointer (some ⟨bs1, 0, none⟩), .pointer (some ⟨bh1, 0, none⟩)], .int .i64 x, undef, undef, undef, undef, undef, undef, undef, undef, undef, undef, undef, undef, undef, undef, undef, undef, undef, undef, undef, undef, undef, undef, undef, undef, undef, undef, undef, undef, undef, undef, undef, undef, undef, undef, undef, undef, undef, undef, undef, undef, undef, undef, undef, undef, undef, undef, undef, undef, undef, undef, undef, undef, undef, undef, undef, undef, undef, undef, undef, undef, undef, undef, undef, undef, undef, undef, undef, undef, undef, undef], defers := [] }) ?assign1 ?body1 ?done1 ?stop1
              case assign1 =>
                intro yl x V Kc hKc
                gi_wp2
                exact hKc
              case stop1 =>
                rintro D c pre V _ ⟨hp, _⟩ hn _
                exact absurd hp hn
              case body1 =>
                as_aux_lemma =>
                  rintro yl pre x V ⟨⟨⟨v, hv, hrow, _⟩, hB⟩, hX⟩ hlt
                  have PA := Aside0.mk (PA.out.next hB hWs)
                  have q4 := PA.out.c4; have q5 := PA.out.c5; have q6 := PA.out.c6; have q7 := PA.out.c7; have q8 := PA.out.c8; have f8 := PA.out.f8
                  have HBV := Aside0.mk hB
                  have HB3 : Aside0 (∀ {w1 : World}, Below V.heap.size V w1 → W.heap.size ≤ w1.heap.size) := ⟨fun h => Nat.le_trans hB.size h.size⟩
                  have HB4 : Aside0 (∀ {w1 : World} {nd : Nat} {o : Obj}, Below V.heap.size V w1 → W.heap.size ≤ ((w1.drewN nd).alloc o).heap.size) := ⟨fun {w1} {nd} {o} h => by have := Nat.le_trans hB.size h.size; rw [World.size_alloc]; show _ ≤ w1.heap.size + 1; omega⟩
                  have hmax : pre.length + 1 ≤ 17592186044416 := by have := HSZ.out; simp at this ⊢; omega
                  have HB5 : Aside0 (pre.length + 1 ≤ maxLen) := ⟨by simp only [maxLen]; omega⟩
                  have HB6 : Aside0 ((pre.length + 1) * 8 ≤ 140737488355328) := ⟨by omega⟩
                  have HXX := Aside0.mk hX
                  clear hB hlt hX hmax
                  by_cases d1 : x < a
                  case pos =>
                    have d1b := eq_true d1
                    have d1c := decide_eq_true d1
                    gi_wp2_with (refine ⟨trivial, ?_⟩)
                    exact ⟨(KeepsOthers.setCell _ _ _), fun hp => by have := (HXG.out x (prefix_mem hp)).1; omega⟩
                  case neg =>
                    have d1b := eq_false d1
                    have d1c := decide_eq_false d1
                    by_cases d2 : b ≤ x
                    case pos =>
                      have d2b := eq_true d2
                      have d2c := decide_eq_true d2
                      gi_wp2_with (refine ⟨trivial, ?_⟩)
                      exact ⟨(KeepsOthers.setCell _ _ _), fun hp => by have := (HXG.out x (prefix_mem hp)).2.1; omega⟩
                    case neg =>
                      have d2b := eq_false d2
                      have d2c := decide_eq_false d2
                      obtain ⟨t, ht⟩ := HBUS.out x
                      cases t with
                      | false =>
                        gi_wp2_with (first | (refine ⟨trivial, ?_⟩; gi_at_call 10; refine (CallsIn.inRound yl (callsIn_wide.2 (payofflaw02_own.calls K A c3 l l _ (PA.out.row HR.out) HC3.out HOWN.out))).mono ?_; rintro e w1 ⟨v1, rfl, hv1, hb1⟩; obtain ⟨Av, cv, rfl⟩ := Kd.R_slice hv1; obtain ⟨_, hcv, hrv⟩ := Kd.R_reads' hv1; have PA := Aside0.mk (PA.out.next hb1 PA.out.sz); have q4 := PA.out.c4; have q5 := PA.out.c5; have q6 := PA.out.c6; have q7 := PA.out.c7; have q8 := PA.out.c8; have f8 := PA.out.f8; have HB1 := Aside0.mk hb1; have hv := boxed_low hv hb1; have hrow := ownsRow_low hrow hb1; clear hb1 hv1) | (refine ⟨trivial, ?_⟩; gi_at_call 8; refine (CallsIn.inRound yl (callsIn_wide.2 (cal_Business.calls K x Av cv l _ _ hrv hcv ht))).mono ?_; rintro e w' ⟨rfl, ⟨nd, rfl⟩⟩; have hc := hv.cell) | (gi_at_builtin; refine wpListIn_append_own _ rfl _ _ 27 rfl W.heap.size 3 i0 (.int .i64 0) 1 8 Try.underlying27 I0.out I1.out I2.out I3.out rfl (by decide) _ _ _ rfl ((ownsRow_low hrow (pw_below_drewN (Below.refl _ _) nd)).alloc _) ⟨w1.heap.size, 0, none⟩ 1 1 [.int .i64 x] rfl rfl (cell_one_new _ _ _) (by simp [Value.oneCell']) HB5.out HB6.out (HB4.out HB1.out) ?_; intro v' w2 hown' hgrow _; obtain ⟨g', cap', rfl⟩ := ownsRow_succ hown'; obtain ⟨hv1, hv2, hr2, hk2, hb2⟩ := (boxed_low hv (pw_below_drewN (Below.refl _ _) nd)).appended (by decide) (ownsRow_low hrow (pw_below_drewN (Below.refl _ _) nd)) (HB3.out (pw_below_drewN HB1.out nd)) (Nat.le_refl _) hown' hgrow; have hc1 := hv1.cell; have hf1 := hv1.frozen))
                        exact ⟨(keepsOthers_below (pw_below_drewN HB1.out nd)).trans (KeepsOthers.setCell _ _ _), fun hp => by have := (HXG.out x (prefix_mem hp)).2.2; rw [ht] at this; simp at this⟩
                      | true =>
                        gi_wp2_with (first | (refine ⟨trivial, ?_⟩; gi_at_call 10; refine (CallsIn.inRound yl (callsIn_wide.2 (payofflaw02_own.calls K A c3 l l _ (PA.out.row HR.out) HC3.out HOWN.out))).mono ?_; rintro e w1 ⟨v1, rfl, hv1, hb1⟩; obtain ⟨Av, cv, rfl⟩ := Kd.R_slice hv1; obtain ⟨_, hcv, hrv⟩ := Kd.R_reads' hv1; have PA := Aside0.mk (PA.out.next hb1 PA.out.sz); have q4 := PA.out.c4; have q5 := PA.out.c5; have q6 := PA.out.c6; have q7 := PA.out.c7; have q8 := PA.out.c8; have f8 := PA.out.f8; have HB1 := Aside0.mk hb1; have hv := boxed_low hv hb1; have hrow := ownsRow_low hrow hb1; clear hb1 hv1) | (refine ⟨trivial, ?_⟩; gi_at_call 8; refine (CallsIn.inRound yl (callsIn_wide.2 (cal_Business.calls K x Av cv l _ _ hrv hcv ht))).mono ?_; rintro e w' ⟨rfl, ⟨nd, rfl⟩⟩; have hc := hv.cell) | (gi_at_builtin; refine wpListIn_append_own _ rfl _ _ 27 rfl W.heap.size 3 i0 (.int .i64 0) 1 8 Try.underlying27 I0.out I1.out I2.out I3.out rfl (by decide) _ _ _ rfl ((ownsRow_low hrow (pw_below_drewN (Below.refl _ _) nd)).alloc _) ⟨w1.heap.size, 0, none⟩ 1 1 [.int .i64 x] rfl rfl (cell_one_new _ _ _) (by simp [Value.oneCell']) HB5.out HB6.out (HB4.out HB1.out) ?_; intro v' w2 hown' hgrow _; obtain ⟨g', cap', rfl⟩ := ownsRow_succ hown'; obtain ⟨hv1, hv2, hr2, hk2, hb2⟩ := (boxed_low hv (pw_below_drewN (Below.refl _ _) nd)).appended (by decide) (ownsRow_low hrow (pw_below_drewN (Below.refl _ _) nd)) (HB3.out (pw_below_drewN HB1.out nd)) (Nat.le_refl _) hown' hgrow; have hc1 := hv1.cell; have hf1 := hv1.frozen))
                        have hKO := (keepsOthers_below (pw_below_drewN HB1.out nd)).trans hk2
                        exact ⟨hKO, ((pw_below_drewN HB1.out nd).mono HBV.out.size).trans hb2, ⟨⟨_, hv2, by have := hr2; simp only [List.length_append, List.length_cons, List.length_nil, Nat.zero_add, ← Nat.add_assoc, List.map_append, List.map_cons, List.map_nil, ← List.append_assoc] at this ⊢; exact this, trivial⟩, HBV.out.trans (((pw_below_drewN HB1.out nd).mono HBV.out.size).trans hb2)⟩, trivial⟩
              case done1 =>
                as_aux_lemma =>
                  rintro D1 zs V2 hD1 hzs ⟨⟨⟨v, hv, hrow, _⟩, hB⟩, _⟩ hK1
                  have hzs' := hzs.symm
                  subst hzs'
                  have hV2s := hB.size
                  have hD1l := (Array.getElem?_eq_some_iff.1 hK1).1
                  have hbk2 := hB
                  have bL2 := hv
                  have rL2 := hrow
                  clear hB hv hrow hzs bL hbk
                  gi_wp2
                  refine wpIn_rangeFunc_ownF (α := Int) (encs := fun x => #[.int .i64 x]) (Kp := Below W.heap.size) (S := fun zs => zs = ys) (Sp := fun pre => pre <+: ys ∧ pre ≠ []) (N := ys.length) (w0 := V2) rfl (by omega) (gf := 23)
                    (lb := #[.pointer (some ⟨bf2, 0, none⟩), .pointer (some ⟨bw2, 0, none⟩), .pointer (some ⟨bs2, 0, none⟩), .pointer (some ⟨bh2, 0, none⟩)]) rfl trivial (enters_of Try.func23 (by kernel_rfl) rfl)
                    (C2.out.stops K ys HY.out 5 (by omega) V2 hbk2) belowK_t (belowK_b (by omega)) (Below.refl _ _) (fun _ => rfl)
                    (fun pre V => ((∃ v, Boxed V W.heap.size 27 v ∧ V.ownsRow W.heap.size 3 1 v (xs.length + pre.length) ((xs ++ pre).map (Value.int .i64)) ∧ True) ∧ Below W.heap.size W V) ∧ V.heap[D1]? = some (.deferred (some [])))
                    (fun _ pre _ => ¬ pre <+: ys)
                    (OwnFrom.and (OwnFrom.and (Own.from (holdsRow_own W.heap.size W.heap.size 27 3 1 (fun pre : List Int => (xs.length + pre.length)) (fun pre : List Int => (xs ++ pre).map (Value.int .i64)) (fun _ _ => True)) _) (ownFrom_below (Nat.le_refl _) (by omega))) (ownFrom_block hD1l))
                    (fun _ _ _ _ _ hs _ _ => hs)
                    ⟨⟨⟨_, bL2, by simpa using rL2, trivial⟩, hbk2⟩, hK1⟩
                    (fun x => { tmps := #[.int .i64 a, .int .i64 b, .int .i64 c, .slice A l.length c3, .pointer (some ⟨w.heap.size, 0, none⟩), .pointer (some ⟨w.heap.size + 1, 0, none⟩), .pointer (some ⟨w.heap.size + 1 + 1, 0, none⟩), .pointer (some ⟨w.heap.size + 1 + 1 + 1, 0, none⟩), .pointer (some ⟨w.heap.size + 1 + 1 + 1 + 1, 0, none⟩), .func (.func 23) #[] #[.pointer (some ⟨bf, 0, none⟩), .pointer (some ⟨bw, 0, none⟩), .pointer (some ⟨bs, 0, none⟩), .pointer (some ⟨bh, 0, none⟩)], .func (.func 23) #[] #[.pointer (some ⟨bf1, 0, none⟩), .pointer (some ⟨bw1, 0, none⟩), .pointer (some ⟨bs1, 0, none⟩), .pointer (some ⟨bh1, 0, none⟩)], .func (.func 23) #[] #[.pointer (some ⟨bf2, 0, none⟩), .pointer (some ⟨bw2, 0, none⟩), .pointer (some ⟨bs2, 0, none⟩), .pointer (some ⟨bh2, 0, none⟩)], .func (.func 23) #[] #[.pointer (some ⟨bf3, 0, none⟩), .pointer (some ⟨bw3, 0, none⟩), .pointer (some ⟨bs3, 0, none⟩), .pointer (some ⟨bh3, 0, none⟩)], .pointer (some ⟨W.heap.size, 0, none⟩), undef, .int .i64 x, undef, undef, .func (.func 23) #[] #[.pointer (some ⟨bf, 0, none⟩), .pointer (some ⟨bw, 0, none⟩), .pointer (some ⟨bs, 0, none⟩), .pointer (some ⟨bh, 0, none⟩)], .func (.func 23) #[] #[.pointer (some ⟨bf, 0, none⟩), .pointer (some ⟨bw, 0, none⟩), .pointer (some ⟨bs, 0, none⟩), .pointer (some ⟨bh, 0, none⟩)], .bool false, .bool false, .int .i64 a, .int .i64 b, .bool (decide (b < a)), .bool (decide (b < a)), .bool (decide (b < a)), .int .i64 b, .int .i64 c, .bool (decide (c < b)), .bool (decide (b < a) || decide (c < b)), undef, undef, .int .i64 a, .int .i64 b, .slice A l.length c3, .slice Av1 l.length cv1, .func (.func 23) #[] #[.pointer (some ⟨bf1, 0, none⟩), .pointer (some ⟨bw1, 0, none⟩), .pointer (some ⟨bs1, 0, none⟩), .pointer (some ⟨bh1, 0, none⟩)], .int .i64 b, .int .i64 c, .slice A l.length c3, .slice Av2 l.length cv2, .func (.func 23) #[] #[.pointer (some ⟨bf2, 0, none⟩), .pointer (some ⟨bw2, 0, none⟩), .pointer (some ⟨bs2, 0, none⟩), .pointer (some ⟨bh2, 0, none⟩)], .int .i64 a, .int .i64 c, .slice A l.length c3, .slice Av3 l.length cv3, .func (.func 23) #[] #[.pointer (some ⟨bf3, 0, none⟩), .pointer (some ⟨bw3, 0, none⟩), .pointer (some ⟨bs3, 0, none⟩), .pointer (some ⟨bh3, 0, none⟩)], .func (.func 23) #[] #[.pointer (some ⟨bf1, 0, none⟩), .pointer (some ⟨bw1, 0, none⟩), .pointer (some ⟨bs1, 0, none⟩), .pointer (some ⟨bh1, 0, none⟩)], .bool false, .bool false, .func (.func 23) #[] #[.pointer (some ⟨bf2, 0, none⟩), .pointer (some ⟨bw2, 0, none⟩), .pointer (some ⟨bs2, 0, none⟩), .pointer (some ⟨bh2, 0, none⟩)], .bool false, .bool false, .bool false, .func (.func 23) #[] #[.pointer (some ⟨bf3, 0, none⟩), .pointer (some ⟨bw3, 0, none⟩), .pointer (some ⟨bs3, 0, none⟩), .pointer (some ⟨bh3, 0, none⟩)], .bool false, .bool false, .func (.func 23) #[] #[.pointer (some ⟨bf1, 0, none⟩), .pointer (some ⟨bw1, 0, none⟩), .pointer (some ⟨bs1, 0, none⟩), .pointer (some ⟨bh1, 0, none⟩)], undef, undef, undef, undef, undef, undef, undef, undef, undef, undef, undef, undef, undef, undef, undef, undef, undef, undef, undef, undef, .func (.func 23) #[] #[.pointer (some ⟨bf2, 0, none⟩), .pointer (some ⟨bw2, 0, none⟩), .pointer (some ⟨bs2, 0, none⟩), .pointer (some ⟨bh2, 0, none⟩)], .int .i64 x, undef, undef, undef, undef, undef, undef, undef, undef, undef, undef, undef, undef, undef, undef, undef, undef, undef, undef, undef, undef, undef, undef, undef, undef, undef, undef, undef, undef, undef, undef, undef, undef, undef, undef, undef, undef, undef, undef, undef, undef, undef, undef, undef, undef, undef, undef, undef, undef, undef], defers := [] }) ?assign2 ?body2 ?done2 ?stop2
                  case assign2 =>
                    intro yl x V Kc hKc
                    gi_wp2
                    exact hKc
                  case stop2 =>
                    rintro D c pre V _ ⟨hp, _⟩ hn _
                    exact absurd hp hn
                  case body2 =>
                    as_aux_lemma =>
                      rintro yl pre x V ⟨⟨⟨v, hv, hrow, _⟩, hB⟩, hX⟩ hlt
                      have PA := Aside0.mk (PA.out.next hB hWs)
                      have q4 := PA.out.c4; have q5 := PA.out.c5; have q6 := PA.out.c6; have q7 := PA.out.c7; have q8 := PA.out.c8; have f8 := PA.out.f8
                      have HBV := Aside0.mk hB
                      have HB3 : Aside0 (∀ {w1 : World}, Below V.heap.size V w1 → W.heap.size ≤ w1.heap.size) := ⟨fun h => Nat.le_trans hB.size h.size⟩
                      have HB4 : Aside0 (∀ {w1 : World} {nd : Nat} {o : Obj}, Below V.heap.size V w1 → W.heap.size ≤ ((w1.drewN nd).alloc o).heap.size) := ⟨fun {w1} {nd} {o} h => by have := Nat.le_trans hB.size h.size; rw [World.size_alloc]; show _ ≤ w1.heap.size + 1; omega⟩
                      have hmax : (xs.length + pre.length) + 1 ≤ 17592186044416 := by have := HSZ.out; simp at this ⊢; omega
                      have HB5 : Aside0 ((xs.length + pre.length) + 1 ≤ maxLen) := ⟨by simp only [maxLen]; omega⟩
                      have HB6 : Aside0 (((xs.length + pre.length) + 1) * 8 ≤ 140737488355328) := ⟨by omega⟩
                      have HXX := Aside0.mk hX
                      clear hB hlt hX hmax
                      by_cases d1 : x < b
                      case pos =>
                        have d1b := eq_true d1
                        have d1c := decide_eq_true d1
                        gi_wp2_with (refine ⟨trivial, ?_⟩)
                        exact ⟨(KeepsOthers.setCell _ _ _), fun hp => by have := (HYG.out x (prefix_mem hp)).1; omega⟩
                      case neg =>
                        have d1b := eq_false d1
                        have d1c := decide_eq_false d1
                        by_cases d2 : c ≤ x
                        case pos =>
                          have d2b := eq_true d2
                          have d2c := decide_eq_true d2
                          gi_wp2_with (refine ⟨trivial, ?_⟩)
                          exact ⟨(KeepsOthers.setCell _ _ _), fun hp => by have := (HYG.out x (prefix_mem hp)).2.1; omega⟩
                        case neg =>
                          have d2b := eq_false d2
                          have d2c := decide_eq_false d2
                          obtain ⟨t, ht⟩ := HBUS.out x
                          cases t with
                          | false =>
                            gi_wp2_with (first | (refine ⟨trivial, ?_⟩; gi_at_call 10; refine (CallsIn.inRound yl (callsIn_wide.2 (payofflaw02_own.calls K A c3 l l _ (PA.out.row HR.out) HC3.out HOWN.out))).mono ?_; rintro e w1 ⟨v1, rfl, hv1, hb1⟩; obtain ⟨Av, cv, rfl⟩ := Kd.R_slice hv1; obtain ⟨_, hcv, hrv⟩ := Kd.R_reads' hv1; have PA := Aside0.mk (PA.out.next hb1 PA.out.sz); have q4 := PA.out.c4; have q5 := PA.out.c5; have q6 := PA.out.c6; have q7 := PA.out.c7; have q8 := PA.out.c8; have f8 := PA.out.f8; have HB1 := Aside0.mk hb1; have hv := boxed_low hv hb1; have hrow := ownsRow_low hrow hb1; clear hb1 hv1) | (refine ⟨trivial, ?_⟩; gi_at_call 8; refine (CallsIn.inRound yl (callsIn_wide.2 (cal_Business.calls K x Av cv l _ _ hrv hcv ht))).mono ?_; rintro e w' ⟨rfl, ⟨nd, rfl⟩⟩; have hc := hv.cell) | (gi_at_builtin; refine wpListIn_append_own _ rfl _ _ 27 rfl W.heap.size 3 i0 (.int .i64 0) 1 8 Try.underlying27 I0.out I1.out I2.out I3.out rfl (by decide) _ _ _ rfl ((ownsRow_low hrow (pw_below_drewN (Below.refl _ _) nd)).alloc _) ⟨w1.heap.size, 0, none⟩ 1 1 [.int .i64 x] rfl rfl (cell_one_new _ _ _) (by simp [Value.oneCell']) HB5.out HB6.out (HB4.out HB1.out) ?_; intro v' w2 hown' hgrow _; obtain ⟨g', cap', rfl⟩ := ownsRow_succ hown'; obtain ⟨hv1, hv2, hr2, hk2, hb2⟩ := (boxed_low hv (pw_below_drewN (Below.refl _ _) nd)).appended (by decide) (ownsRow_low hrow (pw_below_drewN (Below.refl _ _) nd)) (HB3.out (pw_below_drewN HB1.out nd)) (Nat.le_refl _) hown' hgrow; have hc1 := hv1.cell; have hf1 := hv1.frozen))
                            exact ⟨(keepsOthers_below (pw_below_drewN HB1.out nd)).trans (KeepsOthers.setCell _ _ _), fun hp => by have := (HYG.out x (prefix_mem hp)).2.2; rw [ht] at this; simp at this⟩
                          | true =>
                            gi_wp2_with (first | (refine ⟨trivial, ?_⟩; gi_at_call 10; refine (CallsIn.inRound yl (callsIn_wide.2 (payofflaw02_own.calls K A c3 l l _ (PA.out.row HR.out) HC3.out HOWN.out))).mono ?_; rintro e w1 ⟨v1, rfl, hv1, hb1⟩; obtain ⟨Av, cv, rfl⟩ := Kd.R_slice hv1; obtain ⟨_, hcv, hrv⟩ := Kd.R_reads' hv1; have PA := Aside0.mk (PA.out.next hb1 PA.out.sz); have q4 := PA.out.c4; have q5 := PA.out.c5; have q6 := PA.out.c6; have q7 := PA.out.c7; have q8 := PA.out.c8; have f8 := PA.out.f8; have HB1 := Aside0.mk hb1; have hv := boxed_low hv hb1; have hrow := ownsRow_low hrow hb1; clear hb1 hv1) | (refine ⟨trivial, ?_⟩; gi_at_call 8; refine (CallsIn.inRound yl (callsIn_wide.2 (cal_Business.calls K x Av cv l _ _ hrv hcv ht))).mono ?_; rintro e w' ⟨rfl, ⟨nd, rfl⟩⟩; have hc := hv.cell) | (gi_at_builtin; refine wpListIn_append_own _ rfl _ _ 27 rfl W.heap.size 3 i0 (.int .i64 0) 1 8 Try.underlying27 I0.out I1.out I2.out I3.out rfl (by decide) _ _ _ rfl ((ownsRow_low hrow (pw_below_drewN (Below.refl _ _) nd)).alloc _) ⟨w1.heap.size, 0, none⟩ 1 1 [.int .i64 x] rfl rfl (cell_one_new _ _ _) (by simp [Value.oneCell']) HB5.out HB6.out (HB4.out HB1.out) ?_; intro v' w2 hown' hgrow _; obtain ⟨g', cap', rfl⟩ := ownsRow_succ hown'; obtain ⟨hv1, hv2, hr2, hk2, hb2⟩ := (boxed_low hv (pw_below_drewN (Below.refl _ _) nd)).appended (by decide) (ownsRow_low hrow (pw_below_drewN (Below.refl _ _) nd)) (HB3.out (pw_below_drewN HB1.out nd)) (Nat.le_refl _) hown' hgrow; have hc1 := hv1.cell; have hf1 := hv1.frozen))
                            have hKO := (keepsOthers_below (pw_below_drewN HB1.out nd)).trans hk2
                            exact ⟨hKO, ((pw_below_drewN HB1.out nd).mono HBV.out.size).trans hb2, ⟨⟨_, hv2, by have := hr2; simp only [List.length_append, List.length_cons, List.length_nil, Nat.zero_add, ← Nat.add_assoc, List.map_append, List.map_cons, List.map_nil, ← List.append_assoc] at this ⊢; exact this, trivial⟩, HBV.out.trans (((pw_below_drewN HB1.out nd).mono HBV.out.size).trans hb2)⟩, hKO.same D1 _ HXX.out rfl⟩
                  case done2 =>
                    as_aux_lemma =>
                      rintro D2 zs V3 hD2 hzs ⟨⟨⟨vL, hv, hrow, _⟩, hB⟩, hK1'⟩ hK2
                      have hzs' := hzs.symm
                      subst hzs'
                      have hV3s := hB.size
                      have hD1l' := (Array.getElem?_eq_some_iff.1 hK1').1
                      have hD2l := (Array.getElem?_eq_some_iff.1 hK2).1
                      clear hzs bL2 hbk2 rL2 hK1
                      have hrow := (by simpa using hrow : V3.ownsRow W.heap.size 3 1 vL (xs.length + ys.length) (xs.map (Value.int .i64) ++ ys.map (Value.int .i64)))
                      have hvL := ownsRow_lt hrow
                      have bK := Boxed.new V3 3 (.int .i64 0)
                      have bL3 := hv.alloc (.cells #[.int .i64 0] 3)
                      have rL3 := ownsRow_low hrow ((Below.refl _ V3).alloc (Nat.le_refl _) (.cells #[.int .i64 0] 3))
                      have hbk3 := hB.alloc hV3s (.cells #[.int .i64 0] 3)
                      have kA := (Below.heap_alloc V3 (.cells #[.int .i64 0] 3) D1 hD1l').trans hK1'
                      have kB := (Below.heap_alloc V3 (.cells #[.int .i64 0] 3) D2 hD2l).trans hK2
                      gi_wp2
                      obtain ⟨V4, hV4⟩ : ∃ V4, V3.alloc (.cells #[.int .i64 0] 3) = V4 := ⟨_, rfl⟩
                      have hV4s : V4.heap.size = V3.heap.size + 1 := by rw [← hV4]; simp
                      rw [hV4] at bK bL3 rL3 hbk3 kA kB ⊢
                      clear hV4 hv hrow hB hK1' hK2
                      refine wpIn_rangeFunc_ownF (α := Int) (encs := fun x => #[.int .i64 x]) (Kp := Below W.heap.size) (S := fun zs => zs = xs ++ ys) (Sp := fun pre => pre <+: xs ++ ys ∧ pre ≠ []) (N := (xs ++ ys).length) (w0 := V4) rfl (by omega) (gf := 23)
                        (lb := #[.pointer (some ⟨bf3, 0, none⟩), .pointer (some ⟨bw3, 0, none⟩), .pointer (some ⟨bs3, 0, none⟩), .pointer (some ⟨bh3, 0, none⟩)]) rfl trivial (enters_of Try.func23 (by kernel_rfl) rfl)
                        (C3.out.stops K (xs ++ ys) HZ.out 5 (by omega) V4 hbk3) belowK_t (belowK_b (by omega)) (Below.refl _ _) (fun _ => rfl)
                        (fun pre V => ((Boxed V V3.heap.size 3 (.int .i64 (pre.length : Int)) ∧ (Boxed V W.heap.size 27 vL ∧ V.ownsRow W.heap.size 3 1 vL (xs.length + ys.length) (xs.map (Value.int .i64) ++ ys.map (Value.int .i64)))) ∧ Below W.heap.size W V) ∧ (V.heap[D1]? = some (.deferred (some [])) ∧ V.heap[D2]? = some (.deferred (some []))))
                        (fun _ pre _ => ¬ pre <+: xs ++ ys)
                        (OwnFrom.and (OwnFrom.and (OwnFrom.and (Own.from (boxed_own _ _ (fun pre : List Int => .int .i64 (pre.length : Int))) _) (Own.from (fixedRow_own W.heap.size W.heap.size 27 3 1 (xs.length + ys.length) (xs.map (Value.int .i64) ++ ys.map (Value.int .i64)) vL) _)) (ownFrom_below (Nat.le_refl _) (by omega))) (OwnFrom.and (ownFrom_block (by omega)) (ownFrom_block (by omega))))
                        (fun _ _ _ _ _ hs _ _ => hs)
                        ⟨⟨⟨bK, bL3, rL3⟩, hbk3⟩, kA, kB⟩
                        (fun x => { tmps := #[.int .i64 a, .int .i64 b, .int .i64 c, .slice A l.length c3, .pointer (some ⟨w.heap.size, 0, none⟩), .pointer (some ⟨w.heap.size + 1, 0, none⟩), .pointer (some ⟨w.heap.size + 1 + 1, 0, none⟩), .pointer (some ⟨w.heap.size + 1 + 1 + 1, 0, none⟩), .pointer (some ⟨w.heap.size + 1 + 1 + 1 + 1, 0, none⟩), .func (.func 23) #[] #[.pointer (some ⟨bf, 0, none⟩), .pointer (some ⟨bw, 0, none⟩), .pointer (some ⟨bs, 0, none⟩), .pointer (some ⟨bh, 0, none⟩)], .func (.func 23) #[] #[.pointer (some ⟨bf1, 0, none⟩), .pointer (some ⟨bw1, 0, none⟩), .pointer (some ⟨bs1, 0, none⟩), .pointer (some ⟨bh1, 0, none⟩)], .func (.func 23) #[] #[.pointer (some ⟨bf2, 0, none⟩), .pointer (some ⟨bw2, 0, none⟩), .pointer (some ⟨bs2, 0, none⟩), .pointer (some ⟨bh2, 0, none⟩)], .func (.func 23) #[] #[.pointer (some ⟨bf3, 0, none⟩), .pointer (some ⟨bw3, 0, none⟩), .pointer (some ⟨bs3, 0, none⟩), .pointer (some ⟨bh3, 0, none⟩)], .pointer (some ⟨W.heap.size, 0, none⟩), undef, undef, .pointer (some ⟨V3.heap.size, 0, none⟩), .int .i64 x, .func (.func 23) #[] #[.pointer (some ⟨bf, 0, none⟩), .pointer (some ⟨bw, 0, none⟩), .pointer (some ⟨bs, 0, none⟩), .pointer (some ⟨bh, 0, none⟩)], .func (.func 23) #[] #[.pointer (some ⟨bf, 0, none⟩), .pointer (some ⟨bw, 0, none⟩), .pointer (some ⟨bs, 0, none⟩), .pointer (some ⟨bh, 0, none⟩)], .bool false, .bool false, .int .i64 a, .int .i64 b, .bool (decide (b < a)), .bool (decide (b < a)), .bool (decide (b < a)), .int .i64 b, .int .i64 c, .bool (decide (c < b)), .bool (decide (b < a) || decide (c < b)), undef, undef, .int .i64 a, .int .i64 b, .slice A l.length c3, .slice Av1 l.length cv1, .func (.func 23) #[] #[.pointer (some ⟨bf1, 0, none⟩), .pointer (some ⟨bw1, 0, none⟩), .pointer (some ⟨bs1, 0, none⟩), .pointer (some ⟨bh1, 0, none⟩)], .int .i64 b, .int .i64 c, .slice A l.length c3, .slice Av2 l.length cv2, .func (.func 23) #[] #[.pointer (some ⟨bf2, 0, none⟩), .pointer (some ⟨bw2, 0, none⟩), .pointer (some ⟨bs2, 0, none⟩), .pointer (some ⟨bh2, 0, none⟩)], .int .i64 a, .int .i64 c, .slice A l.length c3, .slice Av3 l.length cv3, .func (.func 23) #[] #[.pointer (some ⟨bf3, 0, none⟩), .pointer (some ⟨bw3, 0, none⟩), .pointer (some ⟨bs3, 0, none⟩), .pointer (some ⟨bh3, 0, none⟩)], .func (.func 23) #[] #[.pointer (some ⟨bf1, 0, none⟩), .pointer (some ⟨bw1, 0, none⟩), .pointer (some ⟨bs1, 0, none⟩), .pointer (some ⟨bh1, 0, none⟩)], .bool false, .bool false, .func (.func 23) #[] #[.pointer (some ⟨bf2, 0, none⟩), .pointer (some ⟨bw2, 0, none⟩), .pointer (some ⟨bs2, 0, none⟩), .pointer (some ⟨bh2, 0, none⟩)], .bool false, .bool false, .bool false, .func (.func 23) #[] #[.pointer (some ⟨bf3, 0, none⟩), .pointer (some ⟨bw3, 0, none⟩), .pointer (some ⟨bs3, 0, none⟩), .pointer (some ⟨bh3, 0, none⟩)], .bool false, .bool false, .func (.func 23) #[] #[.pointer (some ⟨bf1, 0, none⟩), .pointer (some ⟨bw1, 0, none⟩), .pointer (some ⟨bs1, 0, none⟩), .pointer (some ⟨bh1, 0, none⟩)], undef, undef, undef, undef, undef, undef, undef, undef, undef, undef, undef, undef, undef, undef, undef, undef, undef, undef, undef, undef, .func (.func 23) #[] #[.pointer (some ⟨bf2, 0, none⟩), .pointer (some ⟨bw2, 0, none⟩), .pointer (some ⟨bs2, 0, none⟩), .pointer (some ⟨bh2, 0, none⟩)], undef, undef, undef, undef, undef, undef, undef, undef, undef, undef, undef, undef, undef, undef, undef, undef, undef, undef, undef, undef, .func (.func 23) #[] #[.pointer (some ⟨bf3, 0, none⟩), .pointer (some ⟨bw3, 0, none⟩), .pointer (some ⟨bs3, 0, none⟩), .pointer (some ⟨bh3, 0, none⟩)], .int .i64 x, undef, undef, undef, undef, undef, undef, undef, undef, undef, undef, undef, undef, undef, undef, undef, undef, undef, undef, undef, undef, undef, undef, undef, undef, undef, undef, undef, undef], defers := [] }) ?assign3 ?body3 ?done3 ?stop3
                      case assign3 =>
                        intro yl x V Kc hKc
                        gi_wp2
                        exact hKc
                      case stop3 =>
                        rintro D c pre V _ ⟨hp, _⟩ hn _
                        exact absurd hp hn
                      case body3 =>
                        as_aux_lemma =>
                          rintro yl pre x V ⟨⟨⟨hk, hv, hrow⟩, hB⟩, hX1, hX2⟩ hlt
                          have hlt' : pre.length < xs.length + ys.length := by simpa using hlt
                          have PA := Aside0.mk (PA.out.next hB hWs)
                          have q8 := PA.out.c8
                          have f8 := PA.out.f8
                          obtain ⟨g, cap, z, hge, hz, hcz⟩ := own_at (zs := xs ++ ys) (by simpa using hrow) (by simp) hlt'
                          subst hge
                          have ck := hk.cell
                          have fk := hk.frozen
                          have cv := hv.cell
                          have d1 : ¬ ((pre.length : Int) ≥ ((xs.length + ys.length : Nat) : Int)) := by omega
                          have hne : W.heap.size ≠ V3.heap.size := by have := (Array.getElem?_eq_some_iff.1 bL3).1; omega
                          by_cases hzx : z = x
                          case' neg => have hbq : (z == x) = false := beq_eq_false_iff_ne.mpr hzx
                          case pos =>
                            subst hzx
                            gi_wp2
                            have KO := KeepsOthers.setCell V ⟨V3.heap.size, 0, none⟩ (.int .i64 (wrap64 ((pre.length : Int) + 1)))
                            have hw : wrap64 ((pre.length : Int) + 1) = ((pre ++ [z]).length : Int) := by have := HSZ.out; simp only [List.length_append, List.length_cons, List.length_nil] at this ⊢; unfold wrap64; omega
                            refine ⟨KO, (Below.refl _ V).setCell (p := ⟨V3.heap.size, 0, none⟩) hV3s _, ⟨⟨⟨?_, hv.other hne _, hrow.kept (grownBy_setCell' V _ _) (.inr ?_)⟩, hB.setCell (p := ⟨V3.heap.size, 0, none⟩) hV3s _⟩, KO.same D1 _ hX1 rfl, KO.same D2 _ hX2 rfl⟩⟩
                            · rw [hw]; exact hk.set _
                            · intro e; have := hvL _ e; omega
                          case neg =>
                            gi_wp2
                            rotate_left
                            · rename_i hxy
                              exact absurd (by simpa using hxy.2) hzx
                            exact ⟨KeepsOthers.setCell _ _ _, fun hp => by have := prefix_get hp; rw [hz] at this; exact hzx (Option.some.inj this)⟩
                      case done3 =>
                        as_aux_lemma =>
                          rintro D3 zs V5 hD3 hzs ⟨⟨⟨hk, hv, hrow⟩, hB⟩, hX1, hX2⟩ hX3
                          have hzs' := hzs.symm
                          subst hzs'
                          have PA := Aside0.mk (PA.out.next hB hWs)
                          have q4 := PA.out.c4
                          have q6 := PA.out.c6
                          have q7 := PA.out.c7
                          have q8 := PA.out.c8
                          have f8 := PA.out.f8
                          have ck := hk.cell
                          have cv := hv.cell
                          obtain ⟨zs, hze⟩ : ∃ zs, xs ++ ys = zs := ⟨_, rfl⟩
                          have hR := row_of_own (zs := xs ++ ys) (by simpa using hrow)
                          have HM' := Aside0.mk HM.out
                          rw [hze] at hR ck HM'
                          obtain ⟨Az, cz, hge⟩ := Kd.R_slice hR
                          rw [hge] at cv hR
                          obtain ⟨_, hcz, hCz⟩ := Kd.R_reads' hR
                          have HCZ := Aside0.mk hCz
                          have HCC := Aside0.mk hcz
                          clear hrow hR hCz hcz hzs hze hk hv hge
                          gi_wp2_with (first
                            | (refine ⟨trivial, ?_⟩; gi_at_call 8; refine (callsIn_wide.2 (cal_Business.calls K 0 none 0 [] _ _ (Kd.C_nil _ _) (Nat.le_refl _) HB0.out)).mono ?_; rintro e w' ⟨rfl, ⟨nd, rfl⟩⟩)
                            | (refine ⟨trivial, ?_⟩; gi_at_call 14; refine (callsIn_wide.2 (payofflaw02_missing.calls K a c Az cz zs A c3 l _ _ (Kd.C_drewN HCZ.out _) HCC.out (Kd.C_drewN (PA.out.row HR.out) _) HC3.out HM'.out)).mono ?_; rintro e w6 ⟨rfl, hb6⟩; have HBM := Aside0.mk hb6; have P6 := Aside0.mk ((PA.out.drewN nd).next hb6 PA.out.sz); have r8 := P6.out.c8; have g8 := P6.out.f8))
                          have kc := World.cell?_setCell_same' w6 ⟨w.heap.size + 1 + 1 + 1 + 1, 0, none⟩ (.bool true) (by rw [r8]; rfl)
                          have KO := (keepsOthers_below HBM.out).trans (KeepsOthers.setCell w6 ⟨w.heap.size + 1 + 1 + 1 + 1, 0, none⟩ (.bool true))
                          have k3 := KO.same D3 _ hX3 rfl
                          have k2 := KO.same D2 _ hX2 rfl
                          have k1 := KO.same D1 _ hX1 rfl
                          have hbl := P6.out.bl.setCell (p := ⟨w.heap.size + 1 + 1 + 1 + 1, 0, none⟩) (by simp; omega) (.bool true)
                          obtain ⟨U, hU⟩ : ∃ U, w6.setCell ⟨w.heap.size + 1 + 1 + 1 + 1, 0, none⟩ (.bool true) = U := ⟨_, rfl⟩
                          rw [hU] at kc k3 k2 k1 hbl ⊢
                          clear KO hU
                          have n2 : D2 ≠ D3 := by omega
                          have n1 : D1 ≠ D3 := by omega
                          have n0 : D1 ≠ D2 := by omega
                          refine ⟨by simp, .inl ⟨_, _, rfl, run_takeDeferred k3, ?_⟩⟩
                          have c1 := cell_kept kc (grownBy_putObj' U D3 (.deferred none)) (fun r e => by cases e; exact ⟨_, k3, rfl⟩)
                          have b1 := hbl.trans (belowK_b (n₀ := w.heap.size) (w := w) (Nat.le_refl _) U D3 _ (.deferred none) (by omega) k3 rfl rfl)
                          replace k2 := (World.putObj_heap_other (w := U) (o := .deferred none) n2).trans k2
                          replace k1 := (World.putObj_heap_other (w := U) (o := .deferred none) n1).trans k1
                          refine ⟨by simp, .inl ⟨_, _, rfl, run_takeDeferred k2, ?_⟩⟩
                          have c2 := cell_kept c1 (grownBy_putObj' _ D2 (.deferred none)) (fun r e => by cases e; exact ⟨_, k2, rfl⟩)
                          have b2 := b1.trans (belowK_b (n₀ := w.heap.size) (w := w) (Nat.le_refl _) _ D2 _ (.deferred none) (by omega) k2 rfl rfl)
                          replace k1 := (World.putObj_heap_other (o := .deferred none) n0).trans k1
                          refine ⟨by simp, .inl ⟨_, _, rfl, run_takeDeferred k1, ?_⟩⟩
                          have c3' := cell_kept c2 (grownBy_putObj' _ D1 (.deferred none)) (fun r e => by cases e; exact ⟨_, k1, rfl⟩)
                          have b3 := b2.trans (belowK_b (n₀ := w.heap.size) (w := w) (Nat.le_refl _) _ D1 _ (.deferred none) (by omega) k1 rfl rfl)
                          refine ⟨.bool true, ?_, rfl, b3⟩
                          simp [results, Try.f5, go_sem, c3']
          as_aux_lemma =>
            clear hKc
            have PA := Aside0.mk PA.out.drew
            have C1 := Aside0.mk C1.out.drew
            have C2 := Aside0.mk C2.out.drew
            refine wpIn_mono (Q := Exit.then Kc (fun _ _ _ => False)) ?_ (fun e a w h => by cases e <;> first | exact h | exact h.elim)
            gi_region_with (first | (refine ⟨trivial, ?_⟩; gi_at_call 10; refine (callsIn_wide.2 (payofflaw02_own.calls K A c3 l l _ ((PA.out).row HR.out) HC3.out HOWN.out)).mono ?_; rintro e w1 ⟨v1, rfl, hv1, hb1⟩; obtain ⟨Av, cv, rfl⟩ := Kd.R_slice hv1; obtain ⟨_, hcv, hrv⟩ := Kd.R_reads' hv1; have PA := Aside0.mk ((PA.out).next hb1 (PA.out).sz); have q4 := PA.out.c4; have q5 := PA.out.c5; have q6 := PA.out.c6; have q7 := PA.out.c7; (try have C1 := Aside0.mk (C1.out.below hb1)); (try have C2 := Aside0.mk (C2.out.below hb1)); clear hv1 hb1) | (refine ⟨trivial, ?_⟩; gi_at_call 11; refine (callsIn_wide.2 (cal_Between.calls a c _ _ l _ hrv hcv HL.out)).mono ?_; rintro e w1 ⟨bf3, bw3, bs3, bh3, bt3, A9, c9, rfl, hcap, hb1⟩; have PA := Aside0.mk (PA.out.next hb1 PA.out.sz); have q4 := PA.out.c4; have q5 := PA.out.c5; have q6 := PA.out.c6; have q7 := PA.out.c7; (try have C1 := Aside0.mk (C1.out.below hb1)); (try have C2 := Aside0.mk (C2.out.below hb1)); have C3 := Aside0.mk hcap; clear hb1 hcap hrv hcv) | (gi_at_call 10; refine (callsIn_wide.2 (payofflaw02_own.calls K A c3 l l _ ((PA.out).row HR.out) HC3.out HOWN.out)).mono ?_; rintro e w1 ⟨v1, rfl, hv1, hb1⟩; obtain ⟨Av, cv, rfl⟩ := Kd.R_slice hv1; obtain ⟨_, hcv, hrv⟩ := Kd.R_reads' hv1; have PA := Aside0.mk ((PA.out).next hb1 (PA.out).sz); have q4 := PA.out.c4; have q5 := PA.out.c5; have q6 := PA.out.c6; have q7 := PA.out.c7; (try have C1 := Aside0.mk (C1.out.below hb1)); (try have C2 := Aside0.mk (C2.out.below hb1)); clear hv1 hb1) | (gi_at_call 11; refine (callsIn_wide.2 (cal_Between.calls a c _ _ l _ hrv hcv HL.out)).mono ?_; rintro e w1 ⟨bf3, bw3, bs3, bh3, bt3, A9, c9, rfl, hcap, hb1⟩; have PA := Aside0.mk (PA.out.next hb1 PA.out.sz); have q4 := PA.out.c4; have q5 := PA.out.c5; have q6 := PA.out.c6; have q7 := PA.out.c7; (try have C1 := Aside0.mk (C1.out.below hb1)); (try have C2 := Aside0.mk (C2.out.below hb1)); have C3 := Aside0.mk hcap; clear hb1 hcap hrv hcv))
            all_goals exact hR _ _ _ _ _ _ _ _ _ _ PA.out C1.out C2.out C3.out
      as_aux_lemma =>
        clear hKc
        have PA := Aside0.mk PA.out.drew
        have C1 := Aside0.mk C1.out.drew
        refine wpIn_mono (Q := Exit.then Kc (fun _ _ _ => False)) ?_ (fun e a w h => by cases e <;> first | exact h | exact h.elim)
        gi_region_with (first | (refine ⟨trivial, ?_⟩; gi_at_call 10; refine (callsIn_wide.2 (payofflaw02_own.calls K A c3 l l _ ((PA.out).row HR.out) HC3.out HOWN.out)).mono ?_; rintro e w1 ⟨v1, rfl, hv1, hb1⟩; obtain ⟨Av, cv, rfl⟩ := Kd.R_slice hv1; obtain ⟨_, hcv, hrv⟩ := Kd.R_reads' hv1; have PA := Aside0.mk ((PA.out).next hb1 (PA.out).sz); have q4 := PA.out.c4; have q5 := PA.out.c5; have q6 := PA.out.c6; have q7 := PA.out.c7; (try have C1 := Aside0.mk (C1.out.below hb1)); (try have C2 := Aside0.mk (C2.out.below hb1)); clear hv1 hb1) | (refine ⟨trivial, ?_⟩; gi_at_call 11; refine (callsIn_wide.2 (cal_Between.calls b c _ _ l _ hrv hcv HL.out)).mono ?_; rintro e w1 ⟨bf2, bw2, bs2, bh2, bt2, A9, c9, rfl, hcap, hb1⟩; have PA := Aside0.mk (PA.out.next hb1 PA.out.sz); have q4 := PA.out.c4; have q5 := PA.out.c5; have q6 := PA.out.c6; have q7 := PA.out.c7; (try have C1 := Aside0.mk (C1.out.below hb1)); (try have C2 := Aside0.mk (C2.out.below hb1)); have C2 := Aside0.mk hcap; clear hb1 hcap hrv hcv) | (gi_at_call 10; refine (callsIn_wide.2 (payofflaw02_own.calls K A c3 l l _ ((PA.out).row HR.out) HC3.out HOWN.out)).mono ?_; rintro e w1 ⟨v1, rfl, hv1, hb1⟩; obtain ⟨Av, cv, rfl⟩ := Kd.R_slice hv1; obtain ⟨_, hcv, hrv⟩ := Kd.R_reads' hv1; have PA := Aside0.mk ((PA.out).next hb1 (PA.out).sz); have q4 := PA.out.c4; have q5 := PA.out.c5; have q6 := PA.out.c6; have q7 := PA.out.c7; (try have C1 := Aside0.mk (C1.out.below hb1)); (try have C2 := Aside0.mk (C2.out.below hb1)); clear hv1 hb1) | (gi_at_call 11; refine (callsIn_wide.2 (cal_Between.calls b c _ _ l _ hrv hcv HL.out)).mono ?_; rintro e w1 ⟨bf2, bw2, bs2, bh2, bt2, A9, c9, rfl, hcap, hb1⟩; have PA := Aside0.mk (PA.out.next hb1 PA.out.sz); have q4 := PA.out.c4; have q5 := PA.out.c5; have q6 := PA.out.c6; have q7 := PA.out.c7; (try have C1 := Aside0.mk (C1.out.below hb1)); (try have C2 := Aside0.mk (C2.out.below hb1)); have C2 := Aside0.mk hcap; clear hb1 hcap hrv hcv))
        all_goals exact hR _ _ _ _ _ _ _ _ _ _ PA.out C1.out C2.out
  as_aux_lemma =>
    clear hKc
    have PA := Aside0.mk PA.out.drew
    refine wpIn_mono (Q := Exit.then Kc (fun _ _ _ => False)) ?_ (fun e a w h => by cases e <;> first | exact h | exact h.elim)
    gi_region_with (first | (refine ⟨trivial, ?_⟩; gi_at_call 10; refine (callsIn_wide.2 (payofflaw02_own.calls K A c3 l l _ ((PA.out).row HR.out) HC3.out HOWN.out)).mono ?_; rintro e w1 ⟨v1, rfl, hv1, hb1⟩; obtain ⟨Av, cv, rfl⟩ := Kd.R_slice hv1; obtain ⟨_, hcv, hrv⟩ := Kd.R_reads' hv1; have PA := Aside0.mk ((PA.out).next hb1 (PA.out).sz); have q4 := PA.out.c4; have q5 := PA.out.c5; have q6 := PA.out.c6; have q7 := PA.out.c7; (try have C1 := Aside0.mk (C1.out.below hb1)); (try have C2 := Aside0.mk (C2.out.below hb1)); clear hv1 hb1) | (refine ⟨trivial, ?_⟩; gi_at_call 11; refine (callsIn_wide.2 (cal_Between.calls a b _ _ l _ hrv hcv HL.out)).mono ?_; rintro e w1 ⟨bf1, bw1, bs1, bh1, bt1, A9, c9, rfl, hcap, hb1⟩; have PA := Aside0.mk (PA.out.next hb1 PA.out.sz); have q4 := PA.out.c4; have q5 := PA.out.c5; have q6 := PA.out.c6; have q7 := PA.out.c7; (try have C1 := Aside0.mk (C1.out.below hb1)); (try have C2 := Aside0.mk (C2.out.below hb1)); have C1 := Aside0.mk hcap; clear hb1 hcap hrv hcv) | (gi_at_call 10; refine (callsIn_wide.2 (payofflaw02_own.calls K A c3 l l _ ((PA.out).row HR.out) HC3.out HOWN.out)).mono ?_; rintro e w1 ⟨v1, rfl, hv1, hb1⟩; obtain ⟨Av, cv, rfl⟩ := Kd.R_slice hv1; obtain ⟨_, hcv, hrv⟩ := Kd.R_reads' hv1; have PA := Aside0.mk ((PA.out).next hb1 (PA.out).sz); have q4 := PA.out.c4; have q5 := PA.out.c5; have q6 := PA.out.c6; have q7 := PA.out.c7; (try have C1 := Aside0.mk (C1.out.below hb1)); (try have C2 := Aside0.mk (C2.out.below hb1)); clear hv1 hb1) | (gi_at_call 11; refine (callsIn_wide.2 (cal_Between.calls a b _ _ l _ hrv hcv HL.out)).mono ?_; rintro e w1 ⟨bf1, bw1, bs1, bh1, bt1, A9, c9, rfl, hcap, hb1⟩; have PA := Aside0.mk (PA.out.next hb1 PA.out.sz); have q4 := PA.out.c4; have q5 := PA.out.c5; have q6 := PA.out.c6; have q7 := PA.out.c7; (try have C1 := Aside0.mk (C1.out.below hb1)); (try have C2 := Aside0.mk (C2.out.below hb1)); have C1 := Aside0.mk hcap; clear hb1 hcap hrv hcv))
    all_goals exact hR _ _ _ _ _ _ _ _ _ _ PA.out C1.out
end Go.Proofs.Ytdebllinaffceaa.M
