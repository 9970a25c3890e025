import Derived.Test.YtdebllinaffceaaDoorVWords
import Derived.Test.YtdebllinaffceaaDoorMx0
import Derived.WalkSpells
namespace Go.Proofs.YtdebllinaffceaaDoor.M
open Go.RowKit Go.Proofs.YtdebllinaffceaaDoorW.PrintWords Go.Proofs.YtdebllinaffceaaDoorW.PrintLast Go.Proofs.YtdebllinaffceaaDoorW.PrintMore
attribute [local go_sem] max2_int min2_int max_two min_two max_three min_three max_four min_four   -- for this text's walks alone
set_option linter.unusedVariables false
set_option linter.unusedSimpArgs false

/-! ### payofflaw02_ownDates: function 36 -/
def payofflaw02_ownDates.l0 : Nat → List (S23) → List (S23) → Int → Option ((List (S23)))
 | 0, _, _, _ => none
 | k + 1, x0, x3, x4 => if x4 < (x0.length : Int) then (if 0 ≤ x4 then (if x4 < (x3.length : Int) then (payofflaw02_ownDates.l0 k x0 (x3.set (x4 : Int).toNat (⟨(rd_T23 x0 x4).f0, (rd_T23 x0 x4).f1, (rd_T23 x0 x4).f2⟩ : S23)) (wrap64 (x4 + 1))) else (none)) else (none)) else (if 0 ≤ (x0.length : Int) then (if (x0.length : Int) < (x3.length : Int) then (if 0 ≤ (wrap64 ((x0.length : Int) + 1)) then (if (wrap64 ((x0.length : Int) + 1)) < (x3.length : Int) then (if (x0.length : Int) ≤ (x3.length : Int) then (some (((x3.set ((x0.length : Int) : Int).toNat (⟨(-7), 0, 0⟩ : S23)).set ((wrap64 ((x0.length : Int) + 1)) : Int).toNat (⟨(-8), 0, 0⟩ : S23)).take ((x0.length : Int) : Int).toNat)) else (none)) else (none)) else (none)) else (none)) else (none))
def payofflaw02_ownDates.f (k : Nat) (l0 : List (S23)) : Option ((List (S23))) := if 0 ≤ (wrap64 ((l0.length : Int) + 2)) then (if (wrap64 ((l0.length : Int) + 2) : Int).toNat ≤ 11728124029610 then (payofflaw02_ownDates.l0 k l0 (List.replicate (wrap64 ((l0.length : Int) + 2) : Int).toNat z23) 0) else (none)) else (none)
/-- What lies behind the end of ownDates's copy. -/
def OwnFullD (w : World) (base : Nat) (v : Value) (xs : List S23) (A0 : Option Addr) (n0 : Nat) : Prop := A0 ≠ none → xs.length = n0 ∧ ∃ A c full, v = .slice A xs.length c ∧ xs.length + 2 ≤ full.length ∧ rd_T23 full (xs.length : Int) = ⟨-7, 0, 0⟩ ∧ rd_T23 full ((xs.length : Int) + 1) = ⟨-8, 0, 0⟩ ∧ Kd.R k23 23 w base (fun _ => True) (.slice A full.length c) full
theorem OwnFullD.below {w w1 : World} {base : Nat} {v : Value} {xs : List S23} {A0 : Option Addr} {n0 : Nat} (h : OwnFullD w base v xs A0 n0) (hb : Below w.heap.size w w1) : OwnFullD w1 base v xs A0 n0 := fun q => by
 obtain ⟨h0, A, c, full, h1, h2, h3, h4, h5⟩ := h q
 exact ⟨h0, A, c, full, h1, h2, h3, h4, Kd.R_below h5 hb⟩
set_option maxHeartbeats 8000000 in
set_option maxRecDepth 100000 in
theorem payofflaw02_ownDates.callsF (k : Nat) (A0 : Option Addr) (c0 : Nat) (l0 : List (S23)) (r : List (S23)) (w : World) (hr0 : Kd.C k23 w A0 l0.length l0) (hc0 : l0.length ≤ c0) (h : payofflaw02_ownDates.f k l0 = some r) :
  Calls Tryd.prog 36 #[.slice A0 l0.length c0] w fun e w' => ∃ v0_ : Value, e = .returned (v0_) ∧ Kd.R k23 23 w' w.heap.size (fun _ => True) v0_ r ∧ Below w.heap.size w w' ∧ OwnFullD w' w.heap.size v0_ r A0 l0.length := by
 have qnil : ∀ (w : World) (a : Option Addr) (n c n' c' : Nat), (binOp .eql 51 (.slice a n c) (.slice none n' c')).run Tryd.prog w = .ok (.bool a.isNone) w := fun w a n c n' c' => Lib.run_eql_slice_nil w _ _ a n c n' c' Tryd.underlying51
 cases A0 with
 | none =>
  have hz : l0.length = 0 := by
   by_cases hz : 0 < l0.length
   ·obtain ⟨g, hg, _⟩ := hr0.2.2 hz
    cases hg
   ·omega
  obtain rfl : l0 = [] := List.eq_nil_of_length_eq_zero hz
  obtain rfl : r = [] := by
   cases k with
   | zero => simp [payofflaw02_ownDates.f, payofflaw02_ownDates.l0] at h
   | succ k => revert h; simp [payofflaw02_ownDates.f, payofflaw02_ownDates.l0, wrap64]
  go_enter Tryd.func36, Tryd.ntmps36
  go_wp2
  go_ret
  exact ⟨_, rfl, Kd.R_nil _ _ _ _ _, by first | exact Below.refl _ _ | (repeat (first | exact Below.refl _ _ | apply pw_below_drewN | apply below_drew1)), fun h => absurd rfl h⟩
 | some ad0 =>
  have hu23 := Tryd.underlying23
  have HR0 := Aside0.mk hr0
  have HC0 := Aside0.mk hc0
  clear hr0 hc0
  have HB := Aside0.mk (Below.refl w.heap.size w)
  have H : (if 0 ≤ (wrap64 ((l0.length : Int) + 2)) then (if (wrap64 ((l0.length : Int) + 2) : Int).toNat ≤ 11728124029610 then (payofflaw02_ownDates.l0 k l0 (List.replicate (wrap64 ((l0.length : Int) + 2) : Int).toNat z23) 0) else (none)) else (none)) = some r := h
  clear h
  obtain ⟨ji2, hji2⟩ : ∃ j_ : Int, (wrap64 ((l0.length : Int) + 2)) = j_ := ⟨_, rfl⟩
  replace H : (if 0 ≤ (ji2) then (if (ji2 : Int).toNat ≤ 11728124029610 then (payofflaw02_ownDates.l0 k l0 (List.replicate (ji2 : Int).toNat z23) 0) else (none)) else (none)) = some r := by first | (rw [hji2] at H; exact H) | (simp only [hji2] at H ⊢; exact H)
  have hji2w : (IntKind.i64.wrap ((l0.length : Int) + 2)) = ji2 := (i64_w _).trans hji2
  by_cases c3 : 0 ≤ (ji2)
  ·rw [if_pos c3] at H
   have c3b0 := eq_true c3
   have c3b1 : decide (0 ≤ (ji2)) = true := decide_eq_true c3
   clear c3
   by_cases c4 : (ji2 : Int).toNat ≤ 11728124029610
   ·rw [if_pos c4] at H
    have c4b0 := eq_true c4
    have c4b1 : decide ((ji2 : Int).toNat ≤ 11728124029610) = true := decide_eq_true c4
    clear c4
    obtain ⟨y101, hy101⟩ : ∃ y_ : List (S23), y_ = (List.replicate (ji2 : Int).toNat z23) := ⟨_, rfl⟩
    replace H : (payofflaw02_ownDates.l0 k l0 y101 0) = some r := by first | (rw [hy101]; with_reducible exact H) | (have H2_ := (Option.bind_some _ _).symm.trans H; rw [hy101]; with_reducible exact H2_) | (have H2_ := (Option.bind_some _ _).symm.trans H; with_reducible exact H2_) | with_reducible exact H | (rw [hy101]; exact H) | exact H
    have Ny101 := Aside0.mk hy101
    clear hy101
    have H' := Aside0.mk H
    clear H
    go_enter Tryd.func36, Tryd.ntmps36
    go_wp2_with (first | ((with_reducible refine gate_dst (N := 10) rfl ?_); refine Kd.R_make k23 _ 23 rfl (N := 10) rfl 51 _ _ rfl ji2 rfl rfl Tryd.underlying51 (.agg #[(.int .i64 0), (.int .i64 0), (.int .i64 0)]) 24 info23 rfl (by decide) (by omega) z23 (ok := fun _ => True) (okp := fun _ => True) (k23_mkM _ _ _ z23 ) (fun _ hk => hk) trivial (of_decide_eq_true (by first | (with_reducible assumption) | assumption)) (Nat.le_trans (Nat.mul_le_mul_right _ (of_decide_eq_true (by first | (with_reducible assumption) | assumption) : ji2.toNat ≤ 11728124029610)) (by omega)) (Below.refl _ _) (Nat.le_refl _) ?_; intro v102 w5 ho6 hb hg_ hnew_; clear hg_ hnew_; (first | rw [← Ny101.out] at ho6 | (simp only [Int.reduceToNat] at ho6; rw [← Ny101.out] at ho6)); have n0_ := Aside0.mk (Kd.R_lower ho6 (below_size (BQ))); have n1_ := Aside0.mk (below_step (BQ) hb); clear HB; have HO103 := n0_; have HB := n1_; clear n0_ n1_; clear hb ho6))
    go_loopg [4] k (fun kq v4 w' => ∃ (x3_1 : List (S23)) (x4_1 : Int), v4 = .int .i64 x4_1 ∧ Aside0 (payofflaw02_ownDates.l0 kq l0 x3_1 x4_1 = some r) ∧ Aside0 (kq ≤ k) ∧ Aside0 (Kd.R k23 23 w' w.heap.size (fun _ => True) v102 x3_1) ∧ Aside0 (Below w.heap.size w w'))
    case atStart => exact ⟨(y101), (0), (by first | rfl | (simp; done) | (simp [*]; done)), H', ⟨Nat.le_refl _⟩, ⟨by (with_reducible repeat (first | apply kA | apply kN | apply kD)); exact HO103.out⟩, ⟨BQ⟩⟩
    case round =>
     clear H'
     try clear p2
     try clear c3
     try clear c3b0
     try clear c3b1
     try clear c4
     try clear c4b0
     try clear c4b1
     try clear p6
     obtain ⟨x3_1, x4_1, rfl, HA, HK1, HO_3, HB⟩ := hrel
     cases gk with
     | zero => exact absurd HA.out (by simp [payofflaw02_ownDates.l0])
     | succ k1 =>
      have H := HA.out
      clear HA
      simp only [payofflaw02_ownDates.l0] at H
      by_cases c7 : x4_1 < (l0.length : Int)
      ·rw [if_pos c7] at H
       have c7b0 : decide (x4_1 < (l0.length : Int)) = true := decide_eq_true c7
       clear c7
       by_cases c8 : 0 ≤ x4_1
       ·rw [if_pos c8] at H
        have c8b0 : decide (0 ≤ x4_1) = true := decide_eq_true c8
        clear c8
        by_cases c9 : x4_1 < (x3_1.length : Int)
        ·rw [if_pos c9] at H
         have c9b0 : decide (x4_1 < (x3_1.length : Int)) = true := decide_eq_true c9
         clear c9
         obtain ⟨y105, hy105⟩ : ∃ y_ : List (S23), y_ = (x3_1.set (x4_1 : Int).toNat (⟨(rd_T23 l0 x4_1).f0, (rd_T23 l0 x4_1).f1, (rd_T23 l0 x4_1).f2⟩ : S23)) := ⟨_, rfl⟩
         replace H : (payofflaw02_ownDates.l0 k1 l0 y105 (wrap64 (x4_1 + 1))) = some r := by first | (rw [hy105]; with_reducible exact H) | (have H2_ := (Option.bind_some _ _).symm.trans H; rw [hy105]; with_reducible exact H2_) | (have H2_ := (Option.bind_some _ _).symm.trans H; with_reducible exact H2_) | with_reducible exact H | (rw [hy105]; exact H) | exact H
         have Ny105 := Aside0.mk hy105
         clear hy105
         have H' := Aside0.mk H
         clear H
         have p104 : 0 ≤ (x4_1 : Int) := of_decide_eq_true (by first | (with_reducible assumption) | assumption)
         have q104 : x4_1 < (l0.length : Int) := of_decide_eq_true (by first | (with_reducible assumption) | assumption)
         obtain ⟨ad104, e104, hx104_0, hx104_1, hx104_2⟩ := at_T23 HR0.out x4_1 p104 q104
         cases e104
         replace hx104_0 := (HB.out.cell (World.block_lt_of_cell? w _ hx104_0)).trans hx104_0
         replace hx104_1 := (HB.out.cell (World.block_lt_of_cell? w _ hx104_1)).trans hx104_1
         replace hx104_2 := (HB.out.cell (World.block_lt_of_cell? w _ hx104_2)).trans hx104_2
         replace p104 := eq_true p104
         replace q104 := eq_true q104
         have p10 : 0 ≤ (x4_1 : Int) := of_decide_eq_true (by first | (with_reducible assumption) | assumption)
         have q10 : (x4_1 : Int) < ((x3_1.length : Int) : Int) := of_decide_eq_true (by first | (with_reducible assumption) | assumption)
         obtain ⟨go10, co10, eo10, gb10, gl10, cl10, HG10⟩ := Kd.R_form HO_3.out (by omega)
         (first | cases eo10 | (injection eo10 with ea_ en_ ec_; (first | subst ea_ | (injection ea_ with ea_; subst ea_)); subst ec_; clear en_))
         have GB10 := Aside0.mk gb10
         have GG10 := Aside0.mk HG10
         clear gb10 gl10 HG10
         obtain ⟨ce10, hcl10, hM10, hcc10, hfr10⟩ := Kd.R_elem HO_3.out z23 (x4_1 : Int) p10 q10
         obtain rfl := k23_openM hM10
         have hx10_0 : wr.cell? ⟨go10, (x4_1 : Int).toNat * 3, none⟩ = some (.int .i64 ((rd_T23 x3_1 x4_1).f0)) := hcc10 0 _ rfl
         have hx10_1 : wr.cell? ⟨go10, (x4_1 : Int).toNat * 3 + 1, none⟩ = some (.int .i64 ((rd_T23 x3_1 x4_1).f1)) := hcc10 1 _ rfl
         have hx10_2 : wr.cell? ⟨go10, (x4_1 : Int).toNat * 3 + 2, none⟩ = some (.int .i64 ((rd_T23 x3_1 x4_1).f2)) := hcc10 2 _ rfl
         have hf10_0 : wr.frozen? ⟨go10, (x4_1 : Int).toNat * 3, none⟩ = false := hfr10 0
         have hf10_1 : wr.frozen? ⟨go10, (x4_1 : Int).toNat * 3 + 1, none⟩ = false := hfr10 1
         have hf10_2 : wr.frozen? ⟨go10, (x4_1 : Int).toNat * 3 + 2, none⟩ = false := hfr10 2
         clear hcl10 hcc10 hfr10 hM10
         replace p10 := eq_true p10
         replace q10 := eq_true q10
         have HX11 := Aside0.mk (show Kd.R k23 23 wr w.heap.size (fun _ => True) (.slice (some ⟨go10, 0, none⟩) x3_1.length co10) x3_1 from (by (with_reducible repeat (first | apply kA | apply kN | apply kD)); exact HO_3.out))
         obtain ⟨ce11, hcl11, hM11, hcc11, hfr11⟩ := Kd.R_elem HX11.out z23 (x4_1 : Int) (of_decide_eq_true (by first | (with_reducible assumption) | assumption)) (by have h_ : (x4_1 : Int) < ((x3_1.length : Int) : Int) := of_decide_eq_true (by first | (with_reducible assumption) | assumption); first | exact h_ | (have e_ := (Kd.R_reads' HO_3.out).1; omega) | simpa using h_)
         obtain rfl := k23_openM hM11
         have HP11 := Kd.R_seg HX11.out (x4_1 : Int) (of_decide_eq_true (by first | (with_reducible assumption) | assumption)) (by have h_ : (x4_1 : Int) < ((x3_1.length : Int) : Int) := of_decide_eq_true (by first | (with_reducible assumption) | assumption); first | exact h_ | (have e_ := (Kd.R_reads' HO_3.out).1; omega) | simpa using h_) (seg := [.int .i64 ((rd_T23 l0 x4_1).f0), .int .i64 ((rd_T23 l0 x4_1).f1), .int .i64 ((rd_T23 l0 x4_1).f2)]) (j := 0) hcl11 hcc11 (show 3 ≤ 3 from by decide) (x' := (⟨(rd_T23 l0 x4_1).f0, (rd_T23 l0 x4_1).f1, (rd_T23 l0 x4_1).f2⟩ : S23)) (k23_mkM _ _ _ (⟨(rd_T23 l0 x4_1).f0, (rd_T23 l0 x4_1).f1, (rd_T23 l0 x4_1).f2⟩ : S23) ) (fun _ hk => hk)
         have hx11_0 := hcc11 0 _ rfl
         (try simp only [show (k23).sz = 3 from rfl, Nat.mul_one, Nat.add_zero] at hx11_0)
         have hf11_0 := hfr11 0
         (try simp only [show (k23).sz = 3 from rfl, Nat.mul_one, Nat.add_zero] at hf11_0)
         have hx11_1 := hcc11 1 _ rfl
         (try simp only [show (k23).sz = 3 from rfl, Nat.mul_one, Nat.add_zero] at hx11_1)
         have hf11_1 := hfr11 1
         (try simp only [show (k23).sz = 3 from rfl, Nat.mul_one, Nat.add_zero] at hf11_1)
         have hx11_2 := hcc11 2 _ rfl
         (try simp only [show (k23).sz = 3 from rfl, Nat.mul_one, Nat.add_zero] at hx11_2)
         have hf11_2 := hfr11 2
         (try simp only [show (k23).sz = 3 from rfl, Nat.mul_one, Nat.add_zero] at hf11_2)
         clear hcl11 hcc11 hfr11 hM11
         go_wp2_with (first | ((with_reducible refine gate_store (t := 23) (p := 23) rfl ?_); refine store_event (t := 23) (p := 23) (v := ?vo_w12) (w1 := (((wr.setCell ⟨go10, (x4_1 : Int).toNat * 3, none⟩ (.int .i64 ((rd_T23 l0 x4_1).f0))).setCell ⟨go10, (x4_1 : Int).toNat * 3 + 1, none⟩ (.int .i64 ((rd_T23 l0 x4_1).f1))).setCell ⟨go10, (x4_1 : Int).toNat * 3 + 2, none⟩ (.int .i64 ((rd_T23 l0 x4_1).f2)))) ?hg ?ho ?hn ?hr ?_; (case ho => rfl); (case hg => rfl); (case hn => rfl); (case hr => first | (go_simp; done) | (go_simp; rfl)); intro w12 hw; have hg : wr.grownBy w12 (some go10) := (by rw [hw]; exact HP11.2); have hp_ : Kd.R k23 23 w12 w.heap.size (fun _ => True) (.slice (some ⟨go10, 0, none⟩) x3_1.length co10) y105 := (by rw [hw, Ny105.out]; exact HP11.1); clear HP11; have n0_ := Aside0.mk (hp_); have n1_ := Aside0.mk ((by rw [hw]; exact below_set (below_set (below_set (HB.out) GB10.out) GB10.out) GB10.out : Below w.heap.size w w12)); clear HO_3; clear HB; have HO_3 := n0_; have HB := n1_; clear n0_ n1_; clear hg hw hp_))
         go_roundg k1
         case measure => have := HK1.out; omega
         case rel => exact ⟨(y105), (wrap64 (x4_1 + 1)), (by first | rfl | (simp; done) | (simp [*]; done)), H', ⟨by have := HK1.out; omega⟩, ⟨by (with_reducible repeat (first | apply kA | apply kN | apply kD)); exact HO_3.out⟩, ⟨BQ⟩⟩
        ·rw [if_neg c9] at H
         exact absurd H (by simp)
       ·rw [if_neg c8] at H
        exact absurd H (by simp)
      ·rw [if_neg c7] at H
       have c7b0 : decide (x4_1 < (l0.length : Int)) = false := decide_eq_false c7
       clear c7
       by_cases c13 : 0 ≤ (l0.length : Int)
       ·rw [if_pos c13] at H
        have c13b0 : decide (0 ≤ (l0.length : Int)) = true := decide_eq_true c13
        have c13b1 : decide (0 ≤ l0.length) = true := decide_eq_true (by omega)
        clear c13
        by_cases c14 : (l0.length : Int) < (x3_1.length : Int)
        ·rw [if_pos c14] at H
         have c14b0 : decide ((l0.length : Int) < (x3_1.length : Int)) = true := decide_eq_true c14
         have c14b1 : decide (l0.length < x3_1.length) = true := decide_eq_true (Int.ofNat_lt.mp c14)
         clear c14
         obtain ⟨y106, hy106⟩ : ∃ y_ : List (S23), y_ = (x3_1.set ((l0.length : Int) : Int).toNat (⟨(-7), 0, 0⟩ : S23)) := ⟨_, rfl⟩
         replace H : (if 0 ≤ (wrap64 ((l0.length : Int) + 1)) then (if (wrap64 ((l0.length : Int) + 1)) < (x3_1.length : Int) then (if (l0.length : Int) ≤ (x3_1.length : Int) then (some ((y106.set ((wrap64 ((l0.length : Int) + 1)) : Int).toNat (⟨(-8), 0, 0⟩ : S23)).take ((l0.length : Int) : Int).toNat)) else (none)) else (none)) else (none)) = some r := by first | (rw [hy106]; with_reducible exact H) | (have H2_ := (Option.bind_some _ _).symm.trans H; rw [hy106]; with_reducible exact H2_) | (have H2_ := (Option.bind_some _ _).symm.trans H; with_reducible exact H2_) | with_reducible exact H | (rw [hy106]; exact H) | exact H
         have Ny106 := Aside0.mk hy106
         clear hy106
         obtain ⟨ji16, hji16⟩ : ∃ j_ : Int, (wrap64 ((l0.length : Int) + 1)) = j_ := ⟨_, rfl⟩
         replace H : (if 0 ≤ (ji16) then (if (ji16) < (x3_1.length : Int) then (if (l0.length : Int) ≤ (x3_1.length : Int) then (some ((y106.set ((ji16) : Int).toNat (⟨(-8), 0, 0⟩ : S23)).take ((l0.length : Int) : Int).toNat)) else (none)) else (none)) else (none)) = some r := by first | (rw [hji16] at H; exact H) | (simp only [hji16] at H ⊢; exact H)
         have hji16w : (IntKind.i64.wrap ((l0.length : Int) + 1)) = ji16 := (i64_w _).trans hji16
         by_cases c17 : 0 ≤ (ji16)
         ·rw [if_pos c17] at H
          have c17b0 : decide (0 ≤ (ji16)) = true := decide_eq_true c17
          clear c17
          by_cases c18 : (ji16) < (x3_1.length : Int)
          ·rw [if_pos c18] at H
           have c18b0 : decide ((ji16) < (x3_1.length : Int)) = true := decide_eq_true c18
           clear c18
           obtain ⟨y107, hy107⟩ : ∃ y_ : List (S23), y_ = (y106.set ((ji16) : Int).toNat (⟨(-8), 0, 0⟩ : S23)) := ⟨_, rfl⟩
           replace H : (if (l0.length : Int) ≤ (x3_1.length : Int) then (some (y107.take ((l0.length : Int) : Int).toNat)) else (none)) = some r := by first | (rw [hy107]; with_reducible exact H) | (have H2_ := (Option.bind_some _ _).symm.trans H; rw [hy107]; with_reducible exact H2_) | (have H2_ := (Option.bind_some _ _).symm.trans H; with_reducible exact H2_) | with_reducible exact H | (rw [hy107]; exact H) | exact H
           have Ny107 := Aside0.mk hy107
           clear hy107
           by_cases c20 : (l0.length : Int) ≤ (x3_1.length : Int)
           ·rw [if_pos c20] at H
            have c20b0 := eq_true c20
            have c20b1 : decide ((l0.length : Int) ≤ (x3_1.length : Int)) = true := decide_eq_true c20
            clear c20
            obtain ⟨y108, hy108⟩ : ∃ y_ : List (S23), y_ = (y107.take ((l0.length : Int) : Int).toNat) := ⟨_, rfl⟩
            replace H : (some y108) = some r := by first | (rw [hy108]; with_reducible exact H) | (have H2_ := (Option.bind_some _ _).symm.trans H; rw [hy108]; with_reducible exact H2_) | (have H2_ := (Option.bind_some _ _).symm.trans H; with_reducible exact H2_) | with_reducible exact H | (rw [hy108]; exact H) | exact H
            have Ny108 := Aside0.mk hy108
            clear hy108
            obtain rfl := Option.some.inj H
            have p15 : 0 ≤ ((l0.length : Int) : Int) := of_decide_eq_true (by first | (with_reducible assumption) | assumption)
            have q15 : ((l0.length : Int) : Int) < ((x3_1.length : Int) : Int) := of_decide_eq_true (by first | (with_reducible assumption) | assumption)
            obtain ⟨go15, co15, eo15, gb15, gl15, cl15, HG15⟩ := Kd.R_form HO_3.out (by omega)
            (first | cases eo15 | (injection eo15 with ea_ en_ ec_; (first | subst ea_ | (injection ea_ with ea_; subst ea_)); subst ec_; clear en_))
            have GB15 := Aside0.mk gb15
            have GG15 := Aside0.mk HG15
            clear gb15 gl15 HG15
            obtain ⟨ce15, hcl15, hM15, hcc15, hfr15⟩ := Kd.R_elem HO_3.out z23 ((l0.length : Int) : Int) p15 q15
            obtain rfl := k23_openM hM15
            have hx15_0 : wr.cell? ⟨go15, ((l0.length : Int) : Int).toNat * 3, none⟩ = some (.int .i64 ((rd_T23 x3_1 (l0.length : Int)).f0)) := hcc15 0 _ rfl
            have hx15_1 : wr.cell? ⟨go15, ((l0.length : Int) : Int).toNat * 3 + 1, none⟩ = some (.int .i64 ((rd_T23 x3_1 (l0.length : Int)).f1)) := hcc15 1 _ rfl
            have hx15_2 : wr.cell? ⟨go15, ((l0.length : Int) : Int).toNat * 3 + 2, none⟩ = some (.int .i64 ((rd_T23 x3_1 (l0.length : Int)).f2)) := hcc15 2 _ rfl
            have hf15_0 : wr.frozen? ⟨go15, ((l0.length : Int) : Int).toNat * 3, none⟩ = false := hfr15 0
            have hf15_1 : wr.frozen? ⟨go15, ((l0.length : Int) : Int).toNat * 3 + 1, none⟩ = false := hfr15 1
            have hf15_2 : wr.frozen? ⟨go15, ((l0.length : Int) : Int).toNat * 3 + 2, none⟩ = false := hfr15 2
            have hx15_0n := hx15_0
            have hx15_1n := hx15_1
            have hx15_2n := hx15_2
            have hf15_0n := hf15_0
            have hf15_1n := hf15_1
            have hf15_2n := hf15_2
            simp only [Int.toNat_natCast] at hx15_0n hx15_1n hx15_2n hf15_0n hf15_1n hf15_2n
            clear hcl15 hcc15 hfr15 hM15
            replace p15 := eq_true p15
            replace q15 := eq_true q15
            have HX21 := Aside0.mk (show Kd.R k23 23 wr w.heap.size (fun _ => True) (.slice (some ⟨go15, 0, none⟩) x3_1.length co15) x3_1 from (by (with_reducible repeat (first | apply kA | apply kN | apply kD)); exact HO_3.out))
            obtain ⟨ce21, hcl21, hM21, hcc21, hfr21⟩ := Kd.R_elem HX21.out z23 ((l0.length : Int) : Int) (of_decide_eq_true (by first | (with_reducible assumption) | assumption)) (by have h_ : ((l0.length : Int) : Int) < ((x3_1.length : Int) : Int) := of_decide_eq_true (by first | (with_reducible assumption) | assumption); first | exact h_ | (have e_ := (Kd.R_reads' HO_3.out).1; omega) | simpa using h_)
            obtain rfl := k23_openM hM21
            have HP21 := Kd.R_seg HX21.out ((l0.length : Int) : Int) (of_decide_eq_true (by first | (with_reducible assumption) | assumption)) (by have h_ : ((l0.length : Int) : Int) < ((x3_1.length : Int) : Int) := of_decide_eq_true (by first | (with_reducible assumption) | assumption); first | exact h_ | (have e_ := (Kd.R_reads' HO_3.out).1; omega) | simpa using h_) (seg := [.int .i64 (-7), .int .i64 0, .int .i64 0]) (j := 0) hcl21 hcc21 (show 3 ≤ 3 from by decide) (x' := (⟨(-7), 0, 0⟩ : S23)) (k23_mkM _ _ _ (⟨(-7), 0, 0⟩ : S23) ) (fun _ hk => hk)
            have hx21_0 := hcc21 0 _ rfl
            (try simp only [show (k23).sz = 3 from rfl, Nat.mul_one, Nat.add_zero] at hx21_0)
            have hf21_0 := hfr21 0
            (try simp only [show (k23).sz = 3 from rfl, Nat.mul_one, Nat.add_zero] at hf21_0)
            have hx21_1 := hcc21 1 _ rfl
            (try simp only [show (k23).sz = 3 from rfl, Nat.mul_one, Nat.add_zero] at hx21_1)
            have hf21_1 := hfr21 1
            (try simp only [show (k23).sz = 3 from rfl, Nat.mul_one, Nat.add_zero] at hf21_1)
            have hx21_2 := hcc21 2 _ rfl
            (try simp only [show (k23).sz = 3 from rfl, Nat.mul_one, Nat.add_zero] at hx21_2)
            have hf21_2 := hfr21 2
            (try simp only [show (k23).sz = 3 from rfl, Nat.mul_one, Nat.add_zero] at hf21_2)
            have hx21_0n := hx21_0
            have hf21_0n := hf21_0
            have hx21_1n := hx21_1
            have hf21_1n := hf21_1
            have hx21_2n := hx21_2
            have hf21_2n := hf21_2
            simp only [Int.toNat_natCast] at hx21_0n hf21_0n hx21_1n hf21_1n hx21_2n hf21_2n
            clear hcl21 hcc21 hfr21 hM21
            have hlcut : y107.length = x3_1.length := by rw [Ny107.out, List.length_set, Ny106.out, List.length_set]
            have hxl : y108.length = l0.length := by rw [Ny108.out, List.length_take, hlcut]; have := of_decide_eq_true c14b1; omega
            have hjq : 0 ≤ wrap64 ((l0.length : Int) + 1) := by rw [hji16]; exact of_decide_eq_true c17b0
            have hjl := HR0.out.2.1
            have hji : ji16 = (l0.length : Int) + 1 := by rw [← hji16]; unfold wrap64 at hjq ⊢; omega
            have hl6 : y106.length = x3_1.length := by rw [Ny106.out, List.length_set]
            have hfl : y108.length + 2 ≤ y107.length := by rw [hlcut, hxl]; have := of_decide_eq_true c18b0; omega
            have hfa : rd_T23 y107 (y108.length : Int) = ⟨-7, 0, 0⟩ := by rw [hxl, Ny107.out]; unfold rd_T23; rw [List.getD_eq_getElem?_getD, Int.toNat_natCast, List.getElem?_set_ne (by omega), Ny106.out, Int.toNat_natCast, List.getElem?_set_self (of_decide_eq_true c14b1)]; rfl
            have hfb : rd_T23 y107 ((y108.length : Int) + 1) = ⟨-8, 0, 0⟩ := by rw [hxl, ← hji, Ny107.out]; unfold rd_T23; rw [List.getD_eq_getElem?_getD, List.getElem?_set_self (by rw [hl6]; have := of_decide_eq_true c18b0; have := of_decide_eq_true c17b0; omega)]; rfl
            have HFL := Aside0.mk hfl
            have HFA := Aside0.mk hfa
            have HFB := Aside0.mk hfb
            have HLC := Aside0.mk hlcut
            have HXLD := Aside0.mk hxl
            clear hjq hjl hji hl6 hxl hfl hfa hfb
            go_wp2_with (first | ((with_reducible refine gate_store (t := 23) (p := 28) rfl ?_); refine store_event (t := 23) (p := 28) (v := ?vo_w22) (w1 := (((wr.setCell ⟨go15, ((l0.length : Int) : Int).toNat * 3, none⟩ (.int .i64 (-7))).setCell ⟨go15, ((l0.length : Int) : Int).toNat * 3 + 1, none⟩ (.int .i64 0)).setCell ⟨go15, ((l0.length : Int) : Int).toNat * 3 + 2, none⟩ (.int .i64 0))) ?hg ?ho ?hn ?hr ?_; (case ho => rfl); (case hg => rfl); (case hn => rfl); (case hr => first | (go_simp; done) | (go_simp; rfl)); intro w22 hw; have hg : wr.grownBy w22 (some go15) := (by rw [hw]; exact HP21.2); have hp_ : Kd.R k23 23 w22 w.heap.size (fun _ => True) (.slice (some ⟨go15, 0, none⟩) x3_1.length co15) y106 := (by rw [hw, Ny106.out]; exact HP21.1); clear HP21; have n0_ := Aside0.mk (hp_); have n1_ := Aside0.mk ((by rw [hw]; exact below_set (below_set (below_set (HB.out) GB15.out) GB15.out) GB15.out : Below w.heap.size w w22)); clear HO_3; clear HB; have HO_3 := n0_; have HB := n1_; clear n0_ n1_; clear hg hw hp_; have p19 : 0 ≤ ((ji16) : Int) := of_decide_eq_true (by first | (with_reducible assumption) | assumption); have q19 : ((ji16) : Int) < ((x3_1.length : Int) : Int) := of_decide_eq_true (by first | (with_reducible assumption) | assumption); obtain ⟨ce19, hcl19, hM19, hcc19, hfr19⟩ := Kd.R_elem HO_3.out z23 ((ji16) : Int) p19 q19; obtain rfl := k23_openM hM19; have hx19_0 : w22.cell? ⟨go15, ((ji16) : Int).toNat * 3, none⟩ = some (.int .i64 ((rd_T23 y106 (ji16)).f0)) := hcc19 0 _ rfl; have hx19_1 : w22.cell? ⟨go15, ((ji16) : Int).toNat * 3 + 1, none⟩ = some (.int .i64 ((rd_T23 y106 (ji16)).f1)) := hcc19 1 _ rfl; have hx19_2 : w22.cell? ⟨go15, ((ji16) : Int).toNat * 3 + 2, none⟩ = some (.int .i64 ((rd_T23 y106 (ji16)).f2)) := hcc19 2 _ rfl; have hf19_0 : w22.frozen? ⟨go15, ((ji16) : Int).toNat * 3, none⟩ = false := hfr19 0; have hf19_1 : w22.frozen? ⟨go15, ((ji16) : Int).toNat * 3 + 1, none⟩ = false := hfr19 1; have hf19_2 : w22.frozen? ⟨go15, ((ji16) : Int).toNat * 3 + 2, none⟩ = false := hfr19 2; clear hcl19 hcc19 hfr19 hM19; replace p19 := eq_true p19; replace q19 := eq_true q19; have HX23 := Aside0.mk (show Kd.R k23 23 w22 w.heap.size (fun _ => True) (.slice (some ⟨go15, 0, none⟩) x3_1.length co15) y106 from (by (with_reducible repeat (first | apply kA | apply kN | apply kD)); exact HO_3.out)); obtain ⟨ce23, hcl23, hM23, hcc23, hfr23⟩ := Kd.R_elem HX23.out z23 ((ji16) : Int) (of_decide_eq_true (by first | (with_reducible assumption) | assumption)) (by have h_ : ((ji16) : Int) < ((x3_1.length : Int) : Int) := of_decide_eq_true (by first | (with_reducible assumption) | assumption); first | exact h_ | (have e_ := (Kd.R_reads' HO_3.out).1; omega) | simpa using h_); obtain rfl := k23_openM hM23; have HP23 := Kd.R_seg HX23.out ((ji16) : Int) (of_decide_eq_true (by first | (with_reducible assumption) | assumption)) (by have h_ : ((ji16) : Int) < ((x3_1.length : Int) : Int) := of_decide_eq_true (by first | (with_reducible assumption) | assumption); first | exact h_ | (have e_ := (Kd.R_reads' HO_3.out).1; omega) | simpa using h_) (seg := [.int .i64 (-8), .int .i64 0, .int .i64 0]) (j := 0) hcl23 hcc23 (show 3 ≤ 3 from by decide) (x' := (⟨(-8), 0, 0⟩ : S23)) (k23_mkM _ _ _ (⟨(-8), 0, 0⟩ : S23) ) (fun _ hk => hk); have hx23_0 := hcc23 0 _ rfl; (try simp only [show (k23).sz = 3 from rfl, Nat.mul_one, Nat.add_zero] at hx23_0); have hf23_0 := hfr23 0; (try simp only [show (k23).sz = 3 from rfl, Nat.mul_one, Nat.add_zero] at hf23_0); have hx23_1 := hcc23 1 _ rfl; (try simp only [show (k23).sz = 3 from rfl, Nat.mul_one, Nat.add_zero] at hx23_1); have hf23_1 := hfr23 1; (try simp only [show (k23).sz = 3 from rfl, Nat.mul_one, Nat.add_zero] at hf23_1); have hx23_2 := hcc23 2 _ rfl; (try simp only [show (k23).sz = 3 from rfl, Nat.mul_one, Nat.add_zero] at hx23_2); have hf23_2 := hfr23 2; (try simp only [show (k23).sz = 3 from rfl, Nat.mul_one, Nat.add_zero] at hf23_2); clear hcl23 hcc23 hfr23 hM23) | ((with_reducible refine gate_store (t := 23) (p := 34) rfl ?_); refine store_event (t := 23) (p := 34) (v := ?vo_w24) (w1 := (((w22.setCell ⟨go15, ((ji16) : Int).toNat * 3, none⟩ (.int .i64 (-8))).setCell ⟨go15, ((ji16) : Int).toNat * 3 + 1, none⟩ (.int .i64 0)).setCell ⟨go15, ((ji16) : Int).toNat * 3 + 2, none⟩ (.int .i64 0))) ?hg ?ho ?hn ?hr ?_; (case ho => rfl); (case hg => rfl); (case hn => rfl); (case hr => first | (go_simp; done) | (go_simp; rfl)); intro w24 hw; have hg : w22.grownBy w24 (some go15) := (by rw [hw]; exact HP23.2); have hp_ : Kd.R k23 23 w24 w.heap.size (fun _ => True) (.slice (some ⟨go15, 0, none⟩) x3_1.length co15) y107 := (by rw [hw, Ny107.out]; exact HP23.1); clear HP23; have n0_ := Aside0.mk (hp_); have n1_ := Aside0.mk ((by rw [hw]; exact below_set (below_set (below_set (HB.out) GB15.out) GB15.out) GB15.out : Below w.heap.size w w24)); clear HO_3; clear HB; have HO_3 := n0_; have HB := n1_; clear n0_ n1_; clear hg hw hp_; have q25 : ((l0.length : Int) : Int) ≤ ((x3_1.length : Int) : Int) := of_decide_eq_true (by first | (with_reducible assumption) | assumption); obtain ⟨i025, hi025, _, hsz25, _⟩ := info_parts info23; have hcut25 := cut_to (P := Tryd.prog) 51 23 .i64 Tryd.underlying51 hi025 (some ⟨go15, 0, none⟩) x3_1.length co15 (l0.length : Int) (of_decide_eq_true (by first | (with_reducible assumption) | assumption)) q25 (Kd.R_reads' HO_3.out).2.1; have hr25 := Kd.R_take (m := ((l0.length : Int) : Int).toNat) HO_3.out (by omega); have hy25 : y108.length = ((l0.length : Int) : Int).toNat := (by rw [Ny108.out, List.length_take]; omega); rw [← Ny108.out] at hr25; rw [← hy25] at hr25 hcut25; clear hy25 hi025 hsz25; have HOF := HO_3; clear HO_3; have HO110 := Aside0.mk hr25; clear hr25; replace q25 := eq_true q25))
            go_ret
            exact ⟨_, by first | rfl | (simp [errW_none, errW_some] <;> rfl) | (simp only [← hji2, ← hji16]; first | rfl | (simp [errW_none, errW_some] <;> rfl)) | (simp [*, errW_none, errW_some] <;> rfl), by (with_reducible repeat (first | apply kA | apply kN | apply kD)); exact HO110.out, BQ, fun _ => ⟨HXLD.out, _, _, y107, by first | rfl | (simp; done), HFL.out, HFA.out, HFB.out, by rw [HLC.out]; exact HOF.out⟩⟩
           ·rw [if_neg c20] at H
            exact absurd H (by simp)
          ·rw [if_neg c18] at H
           exact absurd H (by simp)
         ·rw [if_neg c17] at H
          exact absurd H (by simp)
        ·rw [if_neg c14] at H
         exact absurd H (by simp)
       ·rw [if_neg c13] at H
        exact absurd H (by simp)
   ·rw [if_neg c4] at H
    exact absurd H (by simp)
  ·rw [if_neg c3] at H
   exact absurd H (by simp)
theorem payofflaw02_ownDates.calls (k : Nat) (A0 : Option Addr) (c0 : Nat) (l0 : List (S23)) (r : List (S23)) (w : World) (hr0 : Kd.C k23 w A0 l0.length l0) (hc0 : l0.length ≤ c0) (h : payofflaw02_ownDates.f k l0 = some r) :
  Calls Tryd.prog 36 #[.slice A0 l0.length c0] w fun e w' => ∃ v0_ : Value, e = .returned (v0_) ∧ Kd.R k23 23 w' w.heap.size (fun _ => True) v0_ r ∧ Below w.heap.size w w' :=
 (payofflaw02_ownDates.callsF k A0 c0 l0 r w hr0 hc0 h).mono fun _ _ ⟨v, h1, h2, h3, _⟩ => ⟨v, h1, h2, h3⟩

end Go.Proofs.YtdebllinaffceaaDoor.M
