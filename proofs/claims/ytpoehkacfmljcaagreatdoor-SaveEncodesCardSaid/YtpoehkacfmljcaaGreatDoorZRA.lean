/- The reference's small functions: Effect, within, Valid, Takes, slot, without. -/
import Derived.Test.YtpoehkacfmljcaaGreatDoorZV
import Derived.Test.YtpoehkacfmljcaaGreatDoorZHK
import Derived.Test.YtpoehkacfmljcaaGreatDoorZHB
import Derived.Test.YtpoehkacfmljcaaGreatDoorZRS
set_option maxHeartbeats 4000000
set_option maxRecDepth 100000
namespace Go.Proofs.YtpoehkacfmljcaaGreatDoor.H
open Go.RowKit Go.Proofs.YtpoehkacfmljcaaGreatDoorW.PrintWords Go.Proofs.YtpoehkacfmljcaaGreatDoorW.PrintLast Go.Proofs.YtpoehkacfmljcaaGreatDoorW.PrintMore
open Go.ChangeMaps (setBlock)
attribute [local go_sem] max2_int min2_int max_two min_two max_three min_three max_four min_four
set_option linter.unusedVariables false
set_option linter.unusedSimpArgs false
open Go.Proofs.YtpoehkacfmljcaaGreatDoor.M
theorem tabs : ∀ i, i < 29 → (rRow i).2.2.2.1 = (kT i : Int) ∧ (rRow i).2.2.2.2 = (kP i : Int) ∧ ((rRow i).2.1 = (kRow i).2.2.1 ∨ ((rRow i).2.1 = -1 ∧ (kRow i).2.2.1 = 0)) ∧ ((rRow i).2.2.1 = (kRow i).2.2.2.1 ∨ ((rRow i).2.2.1 = -1 ∧ (kRow i).2.2.2.1 = 0)) ∧ 0 ≤ (kRow i).2.2.1 ∧ 0 ≤ (kRow i).2.2.2.1 := by
 have h : ∀ i : Fin 29, (rRow i).2.2.2.1 = (kT ((i : Nat) : Int) : Int) ∧ (rRow i).2.2.2.2 = (kP ((i : Nat) : Int) : Int) ∧ ((rRow i).2.1 = (kRow i).2.2.1 ∨ ((rRow i).2.1 = -1 ∧ (kRow i).2.2.1 = 0)) ∧ ((rRow i).2.2.1 = (kRow i).2.2.2.1 ∨ ((rRow i).2.2.1 = -1 ∧ (kRow i).2.2.2.1 = 0)) ∧ 0 ≤ (kRow i).2.2.1 ∧ 0 ≤ (kRow i).2.2.2.1 := by decide
 intro i hi
 exact h ⟨i, hi⟩
theorem rEffect_calls (op : Int) (h0 : 0 ≤ op) (h1 : op < 29) (w : World) (G : TabW w) : Calls Tryz.prog 153 #[.int .i64 op] w fun e w' => e = .returned (.tuple #[.int .i64 (kT op), .int .i64 (kP op), .int .i64 0]) ∧ Fr w w' [] := by
 obtain ⟨i, rfl⟩ : ∃ i : Nat, op = i := ⟨op.toNat, by omega⟩
 have hi : i < 29 := by omega
 have HR := row_yes i hi w G
 obtain ⟨e1, e2, _⟩ := tabs i hi
 rw [e1, e2] at HR
 clear e1 e2 G
 generalize (rRow i).1 = t0 at HR
 generalize (rRow i).2.1 = t1 at HR
 generalize (rRow i).2.2.1 = t2 at HR
 have HR := AsM HR
 have hu := Tryz.underlying205
 go_enter Tryz.func153, Tryz.ntmps153
 go_wp2_with (first | (go_at_call 133; (with_reducible refine (HR.out).mono ?_); rintro e W1 ⟨rfl, hF1⟩; have HF1 := AsM hF1; clear hF1))
 go_region
 all_goals (
  (try go_wp2)
  go_ret3
  exact ⟨rfl, FX HF1.out⟩)
def withinR (v b : Int) : Bool := if b < 0 then decide (v = 0) else decide (0 ≤ v ∧ v ≤ b)
theorem rWithin_calls (v b : Int) (w : World) : Calls Tryz.prog 157 #[.int .i64 v, .int .i64 b] w fun e w' => e = .returned (.bool (withinR v b)) ∧ Drawn0 w w' := by
 have hv : (v == 0) = decide (v = 0) := by by_cases h : v = 0 <;> simp [h]
 have hc : b < 0 ∨ (0 ≤ b ∧ v < 0) ∨ (0 ≤ b ∧ 0 ≤ v ∧ b < v) ∨ (0 ≤ b ∧ 0 ≤ v ∧ v ≤ b) := by omega
 rcases hc with h | ⟨h, h2⟩ | ⟨h, h2, h3⟩ | ⟨h, h2, h3⟩
 ·obtain ⟨x, hx⟩ : ∃ x, decide (v = 0) = x := ⟨_, rfl⟩
  have e : withinR v b = x := by unfold withinR; rw [if_pos h]; exact hx
  rw [e]
  rw [hx] at hv
  clear e hx
  go_enter Tryz.func157, Tryz.ntmps157
  go_wp2
  go_ret
  exact ⟨(by first | rfl | (simp; done) | (simp [*]; done)), DQ⟩
 ·rw [show withinR v b = false by unfold withinR; rw [if_neg (by omega)]; simp; omega]
  clear hv
  go_enter Tryz.func157, Tryz.ntmps157
  go_wp2
  go_ret
  exact ⟨(by first | rfl | (simp; done) | (simp [*]; done)), DQ⟩
 ·rw [show withinR v b = false by unfold withinR; rw [if_neg (by omega)]; simp; omega]
  clear hv
  go_enter Tryz.func157, Tryz.ntmps157
  go_wp2
  go_ret
  exact ⟨(by first | rfl | (simp; done) | (simp [*]; done)), DQ⟩
 ·rw [show withinR v b = true by unfold withinR; rw [if_neg (by omega)]; simp; omega]
  clear hv
  go_enter Tryz.func157, Tryz.ntmps157
  go_wp2
  go_ret
  exact ⟨(by first | rfl | (simp; done) | (simp [*]; done)), DQ⟩
theorem withinR_eq {v b k : Int} (h : b = k ∨ (b = -1 ∧ k = 0)) (hk : 0 ≤ k) : withinR v b = decide (0 ≤ v ∧ v ≤ k) := by
 unfold withinR
 rcases h with rfl | ⟨rfl, rfl⟩
 ·rw [if_neg (by omega)]
 ·rw [if_pos (by omega)]
  by_cases h : v = 0
  ·subst h; rfl
  ·simp [h]; omega
theorem rValid_no (op A B : Int) (hop : ¬ (0 ≤ op ∧ op < 29)) (w : World) : Calls Tryz.prog 131 #[.agg #[.int .i64 op, .int .i64 A, .int .i64 B]] w fun e w' => e = .returned (.int .i64 111) ∧ Fr w w' [] := by
 have HR := AsM (row_no op (by omega))
 have hu := Tryz.underlying205
 have hi := Tryz.underlying113
 go_enter Tryz.func131, Tryz.ntmps131
 go_wp2_with (first | (go_at_call 133; (with_reducible refine (HR.out _).mono ?_); rintro e W1 ⟨rfl, hF1⟩; have HF1 : Aside0 (Fr w W1 []) := ⟨Fr.trans (M := []) FQ hF1 (by simp)⟩; clear hF1))
 go_ret
 exact ⟨rfl, FX HF1.out⟩
theorem rValid_yes (i : Nat) (hi : i < 29) (A B : Int) (w : World) (G : TabW w) : Calls Tryz.prog 131 #[.agg #[.int .i64 i, .int .i64 A, .int .i64 B]] w fun e w' => e = .returned (.int .i64 (validC i A B)) ∧ Fr w w' [] := by
 obtain ⟨_, _, e3, e4, e5, e6⟩ := tabs i hi
 have hv : validC i A B = if 0 ≤ A ∧ A ≤ (kRow i).2.2.1 ∧ 0 ≤ B ∧ B ≤ (kRow i).2.2.2.1 then 0 else 111 := by
  unfold validC
  have e : ((i : Int)).toNat = i := by simp
  rw [e]
  by_cases h : 0 ≤ A ∧ A ≤ (kRow i).2.2.1 ∧ 0 ≤ B ∧ B ≤ (kRow i).2.2.2.1
  ·rw [if_pos h, if_pos ⟨by omega, by omega, h.1, h.2.1, h.2.2.1, h.2.2.2⟩]
  ·rw [if_neg h, if_neg (fun hh => h ⟨hh.2.2.1, hh.2.2.2.1, hh.2.2.2.2.1, hh.2.2.2.2.2⟩)]
 have hR := fun W (hf : Fr w W []) => row_yes i hi W (G.fr0 hf)
 have hA := withinR_eq (v := A) e3 e5
 have hB := withinR_eq (v := B) e4 e6
 clear G
 generalize (rRow i).1 = t0 at hR
 generalize (rRow i).2.1 = t1 at hR hA
 generalize (rRow i).2.2.1 = t2 at hR hB
 generalize (rRow i).2.2.2.1 = t3 at hR
 generalize (rRow i).2.2.2.2 = t4 at hR
 have HR := AsM hR
 obtain ⟨ba, hba⟩ : ∃ x, withinR A t1 = x := ⟨_, rfl⟩
 obtain ⟨bb, hbb⟩ : ∃ x, withinR B t2 = x := ⟨_, rfl⟩
 have hfin : validC i A B = if ba = true ∧ bb = true then 0 else 111 := by
  rw [hv, ← hba, ← hbb, hA, hB]
  simp [and_assoc]
 rw [hfin]
 have HA : Aside0 (∀ W, Calls Tryz.prog 157 #[.int .i64 A, .int .i64 t1] W fun e w' => e = .returned (.bool ba) ∧ Drawn0 W w') := ⟨fun W => hba ▸ rWithin_calls A t1 W⟩
 have HB : Aside0 (∀ W, Calls Tryz.prog 157 #[.int .i64 B, .int .i64 t2] W fun e w' => e = .returned (.bool bb) ∧ Drawn0 W w') := ⟨fun W => hbb ▸ rWithin_calls B t2 W⟩
 clear hfin hv hA hB hba hbb hR e3 e4 e5 e6
 have hu := Tryz.underlying205
 have hin := Tryz.underlying113
 cases ba <;> cases bb
 all_goals (
  go_enter Tryz.func131, Tryz.ntmps131
  go_wp2_with (first | (go_at_call 133; (with_reducible refine (HR.out _ ?_).mono ?_); (next => exact FQ); rintro e W1 ⟨rfl, hF1⟩; have HX1 := AsM (hF1.blk (g := w.heap.size) (blk_newN rfl) (by simp)); have HF1 : Aside0 (Fr w W1 []) := ⟨Fr.trans (M := []) FQ hF1 (by simp)⟩; have hxl := blk_lt HX1.out; have x1 := blk_cell HX1.out 1; have x2 := blk_cell HX1.out 2; clear hF1) | (go_at_call 157; (with_reducible refine (HA.out _).mono ?_); rintro e w' ⟨rfl, ⟨nd, rfl⟩⟩) | (go_at_call 157; (with_reducible refine (HB.out _).mono ?_); rintro e w' ⟨rfl, ⟨nd2, rfl⟩⟩))
  go_ret
  exact ⟨(by first | rfl | (simp; done) | (simp [*]; done)), FX HF1.out⟩)
theorem rValid_calls (op A B : Int) (w : World) (G : TabW w) : Calls Tryz.prog 131 #[.agg #[.int .i64 op, .int .i64 A, .int .i64 B]] w fun e w' => e = .returned (.int .i64 (validC op A B)) ∧ Fr w w' [] := by
 by_cases h : 0 ≤ op ∧ op < 29
 ·obtain ⟨i, rfl⟩ : ∃ i : Nat, op = i := ⟨op.toNat, by omega⟩
  exact rValid_yes i (by omega) A B w G
 ·rw [show validC op A B = 111 by unfold validC; rw [if_neg (fun hh => h ⟨hh.1, hh.2.1⟩)]]
  exact rValid_no op A B h w
theorem rRow_ok : ∀ i : Fin 29, ((kRow i).2.1 = 0 → (rRow i).2.1 < 0 ∧ (rRow i).2.2.1 < 0) ∧ ((kRow i).2.1 = 1 → 0 ≤ (rRow i).2.1 ∧ (rRow i).2.2.1 < 0) ∧ ((kRow i).2.1 = 2 → 0 ≤ (rRow i).2.1 ∧ 0 ≤ (rRow i).2.2.1) := by decide +kernel
theorem OwB.buf {l : List Int} {w : World} {e : Ending} {w' : World} (h : OwB l w e w') (hl : l ≠ []) : ∃ ad d q, q = l ∧ e = .returned (.slice (some ad) q.length d) ∧ Kd.C (Kd.int .u8) w' (some ad) q.length q ∧ Fr w w' [] := by
 obtain ⟨A, c, h1, h2, h3, h4⟩ := h.open_
 obtain ⟨ad, rfl, _⟩ := h3.2.2 (by cases l with | nil => exact absurd rfl hl | cons => simp)
 exact ⟨ad, c, l, rfl, h1, h3, h4⟩
theorem uvar_ne (x : Nat) : uvar x ≠ [] := by
 by_cases h : x < 128
 ·rw [uvar_small h]; simp
 ·rw [uvar_big h]; simp
theorem rEncode_calls (A : Option Addr) (c : Nat) (l : List S113) (w : World) (G : TabW w) (hr : Kd.C k113 w A l.length l) (hs : CodeOk l) :
  Calls Tryz.prog 110 #[.slice A l.length c] w fun e w' => ∃ v, e = .returned (.tuple #[v, .int .i64 0]) ∧ Buf False w' w.heap.size v (codeL l) ∧ Fr w w' [] := by
 have HR := AsM hr
 have HS := AsM hs
 have HG := AsM G
 have hmo := hs.most
 have hmi : (l.length : Int) ≤ 262144 := by omega
 clear hr hs G
 go_enter Tryz.func110, Tryz.ntmps110
 go_wp2
 go_loopg [4, 5] l.length (fun kq s4 s5 wr => ∃ (i : Nat), s5 = .int .i64 i ∧ i ≤ l.length ∧ Aside0 (l.length - i ≤ kq) ∧ Aside0 (Buf False wr w.heap.size s4 (codeL (l.take i))) ∧ Aside0 (Fr w wr []))
 case atStart => exact ⟨0, rfl, Nat.zero_le _, ⟨Nat.le_refl _⟩, ⟨Buf.nil _ _ _⟩, ⟨FQ⟩⟩
 case round =>
  obtain ⟨i, rfl, hi, HM, HB, HF⟩ := hrel
  by_cases hil : i < l.length
  ·have n3 : decide (i < l.length) = true := by simpa using hil
   have p0 : (0 : Int) ≤ (i : Int) := by omega
   have p1 : (i : Int) < l.length := by omega
   obtain ⟨ad, rfl, g0, g1, g2⟩ := ins_at HR.out i hil
   obtain ⟨s, hsg⟩ : ∃ s, l.getD i z113 = s := ⟨_, rfl⟩
   have hmem : s ∈ l := by rw [← hsg, List.getD_eq_getElem?_getD, List.getElem?_eq_getElem hil]; exact List.getElem_mem _
   rw [hsg] at g0 g1 g2
   have HSN : Aside0 (codeL (l.take (i + 1)) = codeL (l.take i) ++ insL s) := ⟨by rw [codeL_snoc l i hil, hsg]⟩
   have hv0 := HS.out.ok s hmem
   obtain ⟨o, a, b, n, rfl, ho, ha, hb, hn, hn2, hon⟩ := HS.out.at_ hmem
   simp only at g0 g1 g2 hv0
   have HIL : Aside0 (insL ⟨(o : Int), (a : Int), (b : Int)⟩ = (o : Int) :: (([(a : Int), (b : Int)].take n).flatMap fun x => uvar x.toNat)) := ⟨by unfold insL; rw [hon]⟩
   have HUA : Aside0 ((uvar a).length ≤ 11) := ⟨uvar_len64 (by omega)⟩
   have HUB : Aside0 ((uvar b).length ≤ 11) := ⟨uvar_len64 (by omega)⟩
   have q0 := frd g0 HF.out
   have q1 := frd g1 HF.out
   have q2 := frd g2 HF.out
   have HG0 := AsM g0
   have HG1 := AsM g1
   have HG2 := AsM g2
   have CW : Aside0 (∀ W, Fr w W [] → Calls Tryz.prog 131 #[.agg #[.int .i64 o, .int .i64 a, .int .i64 b]] W fun e w' => e = .returned (.int .i64 0) ∧ Fr W w' []) := ⟨fun W h => hv0 ▸ rValid_calls o a b W (HG.out.fr0 h)⟩
   have hro := rRow_ok ⟨o, ho⟩
   simp only [hn] at hro
   obtain ⟨nm, hnm⟩ : ∃ nm, (rRow o).1 = nm := ⟨_, rfl⟩
   obtain ⟨ra, hra⟩ : ∃ ra, (rRow o).2.1 = ra := ⟨_, rfl⟩
   obtain ⟨rb, hrb⟩ : ∃ rb, (rRow o).2.2.1 = rb := ⟨_, rfl⟩
   obtain ⟨rt, hrt⟩ : ∃ rt, (rRow o).2.2.2.1 = rt := ⟨_, rfl⟩
   obtain ⟨rp, hrp⟩ : ∃ rp, (rRow o).2.2.2.2 = rp := ⟨_, rfl⟩
   have CO : Aside0 (∀ W, Fr w W [] → Calls Tryz.prog 133 #[.int .i64 o] W fun e w' => e = .returned (.tuple #[.agg #[.string nm, .int .i64 ra, .int .i64 rb, .int .i64 rt, .int .i64 rp], .int .i64 0]) ∧ Fr W w' []) := ⟨fun W h => by
    have := row_yes o ho W (HG.out.fr0 h)
    rw [hnm, hra, hrb, hrt, hrp] at this
    exact this⟩
   rw [hra, hrb] at hro
   have CV : Aside0 (∀ W (x : Nat), x < 18446744073709551616 → Calls Tryz.prog 27 #[.int .u64 ((x : Nat) : Int)] W (OwB (uvar x) W)) := ⟨fun W x h => rVarint_calls h W⟩
   have hut := Tryz.underlying113
   have hur := Tryz.underlying205
   clear hsg hmem g0 g1 g2 hv0 hn hon hnm hra hrb hrt hrp
   have hn3 : (n = 0 ∧ ra < 0 ∧ rb < 0) ∨ (n = 1 ∧ 0 ≤ ra ∧ rb < 0) ∨ (n = 2 ∧ 0 ≤ ra ∧ 0 ≤ rb) := by
    have : n = 0 ∨ n = 1 ∨ n = 2 := by omega
    rcases this with rfl | rfl | rfl
    ·exact .inl ⟨rfl, hro.1 rfl⟩
    ·exact .inr (.inl ⟨rfl, hro.2.1 rfl⟩)
    ·exact .inr (.inr ⟨rfl, hro.2.2 rfl⟩)
   clear hro
   rcases hn3 with ⟨rfl, r1, r2⟩ | ⟨rfl, r1, r2⟩ | ⟨rfl, r1, r2⟩
   all_goals (
    go_wp2_with (first
     | (go_at_call 131; ((with_reducible refine (CW.out _ HF.out).mono ?_); rintro e W1 ⟨rfl, hF⟩; have HF1 : Aside0 (Fr w W1 []) := ⟨HF.out.tr hF⟩; have HB1 := AsM (HB.out.fr hF); have t0 := frd HG0.out HF1.out; clear hF))
     | (go_at_call 133; ((with_reducible refine (CO.out _ HF1.out).mono ?_); rintro e W2 ⟨rfl, hF⟩; have HF2 : Aside0 (Fr w W2 []) := ⟨HF1.out.tr hF⟩; have HB2 := AsM (HB1.out.fr hF); have t0 := frc HG0.out (HF2.out.alloc (.cells #[.string nm, .int .i64 ra, .int .i64 rb, .int .i64 rt, .int .i64 rp] 205)) (by simp); clear hF))
     | ((with_reducible refine gate_builtin (b := .append) (xs := #[.tmp 35, .tmp 42]) rfl ?_); at_builtin; (refine wp_buf_one (mk := False) (b0 := w.heap.size) rfl (.tmp 35) (.tmp 42) rfl _ rfl (by have e : ∀ o : Obj, (W2.alloc o).heap.size = W2.heap.size + 1 := fun o => (by simp); rw [e]; rfl) (HB2.out.fr ((Fr.refl _ _).alloc _)) (HF2.out.alloc _).size (by have := HS.out.len i; omega) ?_; intro v3 W3 hB3 hG3; have hk3 := hG3.typ (HB2.out.fr ((Fr.refl _ _).alloc _)) (blk_newN rfl) (by decide); have HF3 : Aside0 (Fr w W3 []) := ⟨hG3.fr (HB2.out.fr ((Fr.refl _ _).alloc _)) (HF2.out.alloc _)⟩; have HB3 := AsM hB3; have HK3 := AsM hk3; have d1 := blk_cell hk3 1; have d2 := blk_cell hk3 2; have t1 := frd HG1.out HF3.out; have t2 := frd HG2.out HF3.out; clear hG3 hB3 hk3))
     | (go_at_call 27; (with_reducible refine (CV.out W5 b (by omega)).mono ?_); (rintro e W6 h6; obtain ⟨B6, d6, q6, hq6, rfl, hs6, hf6⟩ := h6.buf (uvar_ne _); have HQ6 := AsM hq6; have HS6 := AsM hs6; have HF6 : Aside0 (Fr W5 W6 []) := ⟨hf6⟩; clear h6 hq6 hs6 hf6))
     | (go_at_call 27; ((with_reducible refine (CV.out W3 a (by omega)).mono ?_); rintro e W4 h4; obtain ⟨B4, d4, q4, hq4, rfl, hs4, hf4⟩ := h4.buf (uvar_ne _); have HQ4 := AsM hq4; have HS4 := AsM hs4; have HF4 : Aside0 (Fr W3 W4 []) := ⟨hf4⟩; clear h4 hq4 hs4 hf4))
     | ((with_reducible refine gate_builtin (b := .append) (xs := #[.tmp 47, .tmp 54]) rfl ?_); at_builtin; (refine wp_buf_app (mk := False) (b0 := w.heap.size) rfl (.tmp 47) (.tmp 54) rfl (xs := q4) rfl rfl rfl (HB3.out.fr HF4.out) (HF3.out.tr HF4.out).size HS4.out (by have := HS.out.len i; have := HUA.out; have := congrArg List.length HQ4.out; simp; omega) ?_; intro v5 W5 hB5 hG5; have hk5 := hG5.typ (HB3.out.fr HF4.out) (HF4.out.bl HK3.out) (by decide); have HF5 : Aside0 (Fr w W5 []) := ⟨hG5.fr (HB3.out.fr HF4.out) (HF3.out.tr HF4.out)⟩; have HB5 := AsM hB5; have HK5 := AsM hk5; have d2 := blk_cell hk5 2; have t2 := frd HG2.out HF5.out; clear hG5 hB5 hk5))
     | ((with_reducible refine gate_builtin (b := .append) (xs := #[.tmp 59, .tmp 66]) rfl ?_); at_builtin; (refine wp_buf_app (mk := False) (b0 := w.heap.size) rfl (.tmp 59) (.tmp 66) rfl (xs := q6) rfl rfl rfl (HB5.out.fr HF6.out) (HF5.out.tr HF6.out).size HS6.out (by have := HS.out.len i; have := HUA.out; have := HUB.out; have := congrArg List.length HQ4.out; have := congrArg List.length HQ6.out; simp; omega) ?_; intro v7 W7 hB7 hG7; have HF7 : Aside0 (Fr w W7 []) := ⟨hG7.fr (HB5.out.fr HF6.out) (HF5.out.tr HF6.out)⟩; have HB7 := AsM hB7; clear hG7 hB7)))
    go_roundg (l.length - (i + 1))
    case measure => have := HM.out; omega
    case rel => exact ⟨i + 1, by go_num, by omega, ⟨Nat.le_refl _⟩, ⟨by rw [HSN.out, HIL.out]; first | (have h := HB7.out; rw [HQ6.out, HQ4.out] at h; simpa using h) | (have h := HB5.out; rw [HQ4.out] at h; simpa using h) | simpa using HB3.out⟩, by first | exact HF7 | exact HF5 | exact HF3⟩)
  ·obtain rfl : i = l.length := by omega
   have n3 : decide (l.length < l.length) = false := by simp
   go_wp2
   go_ret2
   exact ⟨_, rfl, by have h := HB.out; rw [List.take_of_length_le (Nat.le_refl _)] at h; exact h, HF.out⟩
def sizesL (hor cel slo sta : Nat) : List Int := [hor, cel, slo, sta].flatMap uvar
theorem sizes_len (hor cel slo sta k : Nat) (h0 : hor ≤ 1000000000) (h1 : cel ≤ 1000000000) (h2 : slo ≤ 1000000000) (h3 : sta ≤ 1000000000) : (([hor, cel, slo, sta].take k).flatMap uvar).length ≤ 44 := by
 have e0 := uvar_len64 (x := hor) (by omega)
 have e1 := uvar_len64 (x := cel) (by omega)
 have e2 := uvar_len64 (x := slo) (by omega)
 have e3 := uvar_len64 (x := sta) (by omega)
 match k with
 | 0 => simp
 | 1 => simp; omega
 | 2 => simp; omega
 | 3 => simp; omega
 | k + 4 => simp; omega
theorem writeSizes_calls (g : Nat) (v0 v1 v2 v7 : Value) (hor cel slo sta : Nat) (w : World) (hb : w.heap[g]? = some (.cells #[v0, v1, v2, .int .i64 hor, .int .i64 cel, .int .i64 slo, .int .i64 sta, v7] 26 (0, 0)))
  (h0 : hor ≤ 1000000000) (h1 : cel ≤ 1000000000) (h2 : slo ≤ 1000000000) (h3 : sta ≤ 1000000000) :
  Calls Tryz.prog 68 #[.pointer (some ⟨g, 0, none⟩)] w fun e w' => ∃ v, e = .returned v ∧ Buf False w' w.heap.size v (sizesL hor cel slo sta) ∧ Fr w w' [] := by
 have d3 : w.cell? ⟨g, 3, none⟩ = some (.int .i64 hor) := blk_cell hb 3
 have d4 : w.cell? ⟨g, 4, none⟩ = some (.int .i64 cel) := blk_cell hb 4
 have d5 : w.cell? ⟨g, 5, none⟩ = some (.int .i64 slo) := blk_cell hb 5
 have d6 : w.cell? ⟨g, 6, none⟩ = some (.int .i64 sta) := blk_cell hb 6
 have hlt := blk_lt hb
 have hut := Tryz.underlying26
 have HL : Aside0 (∀ k, (([hor, cel, slo, sta].take k).flatMap uvar).length ≤ 44) := ⟨fun k => sizes_len _ _ _ _ k h0 h1 h2 h3⟩
 have CU : Aside0 (∀ W v q (x : Nat), Buf False W w.heap.size v q → Fr w W [] → x < 18446744073709551616 → q.length ≤ 130000000000000 → Calls Tryz.prog 10 #[v, .int .u64 ((x : Nat) : Int)] W (BufP False w.heap.size W v (q ++ uvar x))) := ⟨fun W v l x h1 h2 h3 h4 => oUint_C x h3 h4 h1 h2.size⟩
 clear hb
 go_enter Tryz.func68, Tryz.ntmps68
 go_wp2
 go_region_held3 (fun w' => w'.cell? ⟨g, 3, none⟩ = some (.int .i64 hor) ∧ w'.cell? ⟨g, 4, none⟩ = some (.int .i64 cel) ∧ w'.cell? ⟨g, 5, none⟩ = some (.int .i64 slo) ∧ w'.cell? ⟨g, 6, none⟩ = some (.int .i64 sta)) (first | (refine ⟨frc (L := []) d3 ?_ List.not_mem_nil, frc (L := []) d4 ?_ List.not_mem_nil, frc (L := []) d5 ?_ List.not_mem_nil, frc (L := []) d6 ?_ List.not_mem_nil⟩ <;> exact FQ) | go_keep) (fail)
 clear d3 d4 d5 d6
 go_wp2
 go_loopg [3, 24] 4 (fun kq s3 s24 w3 => ∃ k : Nat, s24 = .int .i64 k ∧ k ≤ 4 ∧ Aside0 (4 - k ≤ kq) ∧ Aside0 (Fr w w3 []) ∧ Aside0 (w3.heap[w.heap.size]? = some (.cells #[.int .i64 hor, .int .i64 cel, .int .i64 slo, .int .i64 sta] 3 (0, 0))) ∧ Aside0 (Buf False w3 w.heap.size s3 (([hor, cel, slo, sta].take k).flatMap uvar)))
 case atStart => exact ⟨0, rfl, by omega, ⟨Nat.le_refl _⟩, ⟨FQ⟩, ⟨blk_drew (blk_newN rfl)⟩, ⟨Buf.nil _ _ _⟩⟩
 case round =>
  obtain ⟨k, rfl, hk, HMk, HFk, HAk, HBk⟩ := hrel
  have hkc : k = 0 ∨ k = 1 ∨ k = 2 ∨ k = 3 ∨ k = 4 := by omega
  rcases hkc with rfl | rfl | rfl | rfl | rfl
  ·have hck : wr.cell? ⟨w.heap.size, 0, none⟩ = some (.int .i64 hor) := blk_cell HAk.out 0
   go_wp2_with (first | (go_at_call 10; ((with_reducible refine (CU.out _ _ _ hor HBk.out HFk.out (by omega) (by have := HL.out 0; omega)).mono ?_); rintro e W4 ⟨v4, rfl, hB4, hG4⟩; have HF4 : Aside0 (Fr w W4 []) := ⟨hG4.fr HBk.out HFk.out⟩; have HA4 := AsM (hG4.typ HBk.out HAk.out (by decide)); have HB4 := AsM hB4; clear hB4 hG4)))
   go_roundg (4 - 1)
   case measure => have := HMk.out; omega
   case rel => exact ⟨1, by first | rfl | go_num, by omega, ⟨by omega⟩, HF4, HA4, ⟨by simpa using HB4.out⟩⟩
  ·have hck : wr.cell? ⟨w.heap.size, 1, none⟩ = some (.int .i64 cel) := blk_cell HAk.out 1
   go_wp2_with (first | (go_at_call 10; ((with_reducible refine (CU.out _ _ _ cel HBk.out HFk.out (by omega) (by have := HL.out 1; omega)).mono ?_); rintro e W4 ⟨v4, rfl, hB4, hG4⟩; have HF4 : Aside0 (Fr w W4 []) := ⟨hG4.fr HBk.out HFk.out⟩; have HA4 := AsM (hG4.typ HBk.out HAk.out (by decide)); have HB4 := AsM hB4; clear hB4 hG4)))
   go_roundg (4 - 2)
   case measure => have := HMk.out; omega
   case rel => exact ⟨2, by first | rfl | go_num, by omega, ⟨by omega⟩, HF4, HA4, ⟨by simpa using HB4.out⟩⟩
  ·have hck : wr.cell? ⟨w.heap.size, 2, none⟩ = some (.int .i64 slo) := blk_cell HAk.out 2
   go_wp2_with (first | (go_at_call 10; ((with_reducible refine (CU.out _ _ _ slo HBk.out HFk.out (by omega) (by have := HL.out 2; omega)).mono ?_); rintro e W4 ⟨v4, rfl, hB4, hG4⟩; have HF4 : Aside0 (Fr w W4 []) := ⟨hG4.fr HBk.out HFk.out⟩; have HA4 := AsM (hG4.typ HBk.out HAk.out (by decide)); have HB4 := AsM hB4; clear hB4 hG4)))
   go_roundg (4 - 3)
   case measure => have := HMk.out; omega
   case rel => exact ⟨3, by first | rfl | go_num, by omega, ⟨by omega⟩, HF4, HA4, ⟨by simpa using HB4.out⟩⟩
  ·have hck : wr.cell? ⟨w.heap.size, 3, none⟩ = some (.int .i64 sta) := blk_cell HAk.out 3
   go_wp2_with (first | (go_at_call 10; ((with_reducible refine (CU.out _ _ _ sta HBk.out HFk.out (by omega) (by have := HL.out 3; omega)).mono ?_); rintro e W4 ⟨v4, rfl, hB4, hG4⟩; have HF4 : Aside0 (Fr w W4 []) := ⟨hG4.fr HBk.out HFk.out⟩; have HA4 := AsM (hG4.typ HBk.out HAk.out (by decide)); have HB4 := AsM hB4; clear hB4 hG4)))
   go_roundg (4 - 4)
   case measure => have := HMk.out; omega
   case rel => exact ⟨4, by first | rfl | go_num, by omega, ⟨by omega⟩, HF4, HA4, ⟨by simpa using HB4.out⟩⟩
  ·go_wp2
   go_ret
   exact ⟨_, rfl, HBk.out, HFk.out⟩
def poolD (x l : Int) : Int := (x - l - 1) % 18446744073709551616
def poolI (pool : List Int) (i : Nat) : List Int := if i = 0 then uvar (zig (pool.getD 0 0)) else uvar (poolD (pool.getD i 0) (pool.getD (i - 1) 0)).toNat
def poolL (pool : List Int) (k : Nat) : List Int := uvar pool.length ++ (List.range k).flatMap (poolI pool)
theorem pool_snoc (pool : List Int) (k : Nat) : poolL pool (k + 1) = poolL pool k ++ poolI pool k := by
 unfold poolL
 rw [List.range_succ, List.flatMap_append]
 simp
theorem poolI_len {pool : List Int} (hI : ∀ x ∈ pool, -9223372036854775808 ≤ x ∧ x < 9223372036854775808) (i : Nat) : (poolI pool i).length ≤ 11 := by
 unfold poolI
 split
 ·have h0 : -9223372036854775808 ≤ pool.getD 0 0 ∧ pool.getD 0 0 < 9223372036854775808 := by
   cases pool with
   | nil => simp
   | cons x l => simpa using hI x List.mem_cons_self
  exact uvar_len64 (zig_lt h0)
 ·exact uvar_len64 (by unfold poolD; omega)
theorem poolL_len {pool : List Int} (hI : ∀ x ∈ pool, -9223372036854775808 ≤ x ∧ x < 9223372036854775808) (hp : pool.length ≤ 1000000) : ∀ k : Nat, (poolL pool k).length ≤ 11 + k * 11
 | 0 => by have := uvar_len64 (x := pool.length) (by omega); simp [poolL]; omega
 | k + 1 => by
  have h1 := poolL_len hI hp k
  have h2 := poolI_len hI k
  rw [pool_snoc, List.length_append]
  omega
theorem add0 (ad : Addr) : ad.add 0 = ad := by
 obtain ⟨b, o, s⟩ := ad
 cases s <;> simp [Addr.add]
theorem pl_at {w : World} {A : Option Addr} {n : Nat} {xs : List Int} (h : Kd.C (Kd.int .i64) w A n xs) (k : Nat) (hk : k < n) : ∃ ad, A = some ad ∧ w.cell? (ad.add k) = some (.int .i64 (xs.getD k 0)) := by
 obtain ⟨ad, e, hc⟩ := ReadsOf.at_ (enc := Value.int .i64) (d := (0 : Int)) (Kd.reads_of_C h) (k : Int) (by omega) (by omega)
 exact ⟨ad, e, by simpa [rdOf] using hc⟩
theorem writePool_calls (g : Nat) (v0 v1 : Value) (A : Option Addr) (c : Nat) (pool : List Int) (v3 v4 v5 v6 v7 : Value) (w : World) (hb : w.heap[g]? = some (.cells #[v0, v1, .slice A pool.length c, v3, v4, v5, v6, v7] 26 (0, 0)))
  (hr : Kd.C (Kd.int .i64) w A pool.length pool) (hp : pool.length ≤ 1000000) (hI : ∀ x ∈ pool, -9223372036854775808 ≤ x ∧ x < 9223372036854775808) :
  Calls Tryz.prog 66 #[.pointer (some ⟨g, 0, none⟩)] w fun e w' => ∃ v, e = .returned v ∧ Buf False w' w.heap.size v (poolL pool pool.length) ∧ Fr w w' [] := by
 have d0 : w.cell? ⟨g, 2, none⟩ = some (.slice A pool.length c) := blk_cell hb 2
 have HR := AsM hr
 have HI := AsM hI
 have HLN : Aside0 (∀ k, k ≤ pool.length → (poolL pool k).length ≤ 13000000) := ⟨fun k hk => by have := poolL_len hI hp k; omega⟩
 have hlt := blk_lt hb
 have hut := Tryz.underlying26
 have CU : Aside0 (∀ W v q (x : Int), Buf False W w.heap.size v q → Fr w W [] → 0 ≤ x → x < 18446744073709551616 → q.length ≤ 130000000000000 → Calls Tryz.prog 10 #[v, .int .u64 x] W (BufP False w.heap.size W v (q ++ uvar x.toNat))) := ⟨fun W v l x h1 h2 h3 h4 h5 => by
  obtain ⟨n, rfl⟩ : ∃ n : Nat, x = n := ⟨x.toNat, by omega⟩
  rw [Int.toNat_natCast]
  exact oUint_C n (by omega) h5 h1 h2.size⟩
 have CI : Aside0 (∀ W v q (x : Int), Buf False W w.heap.size v q → Fr w W [] → (-9223372036854775808 ≤ x ∧ x < 9223372036854775808) → q.length ≤ 130000000000000 → Calls Tryz.prog 11 #[v, .int .i64 x] W (BufP False w.heap.size W v (q ++ uvar (zig x)))) := ⟨fun W v l x h1 h2 h3 h4 => oAppendInt_calls False _ W v l h1 h2.size h3 h4⟩
 clear hb hr hI
 go_enter Tryz.func66, Tryz.ntmps66
 go_wp2_with (first | (go_at_call 10; ((with_reducible refine (CU.out w (.slice none 0 0) [] (pool.length : Int) (Buf.nil _ _ _) (Fr.refl _ _) (by omega) (by omega) (by simp)).mono ?_); rintro e W1 ⟨v1, rfl, hB1, hG1⟩; have HB1 := AsM hB1; have HF1 : Aside0 (Fr w W1 []) := ⟨hG1.fr (Buf.nil False w _) (Fr.refl _ _)⟩; have d1 := frd d0 HF1.out; clear hB1 hG1)))
 go_loopg [3, 18] pool.length (fun kq s3 s18 wr => ∃ (i : Nat), s18 = .int .i64 i ∧ i ≤ pool.length ∧ Aside0 (pool.length - i ≤ kq) ∧ Aside0 (Buf False wr w.heap.size s3 (poolL pool i)) ∧ Aside0 (Fr w wr []))
 case atStart => exact ⟨0, rfl, Nat.zero_le _, ⟨Nat.le_refl _⟩, ⟨by simpa [poolL] using HB1.out⟩, HF1⟩
 case round =>
  clear HB1 HF1 d1
  obtain ⟨i, rfl, hi, HM, HB, HF⟩ := hrel
  by_cases hil : i < pool.length
  ·have n3 : decide (i < pool.length) = true := by simpa using hil
   have p0 : (0 : Int) ≤ (i : Int) := by omega
   have p1 : (i : Int) < pool.length := by omega
   obtain ⟨ad, rfl, g0⟩ := pl_at HR.out i hil
   obtain ⟨x, hx⟩ : ∃ x, pool.getD i 0 = x := ⟨_, rfl⟩
   have hxm : x ∈ pool := by rw [← hx, List.getD_eq_getElem?_getD, List.getElem?_eq_getElem hil]; exact List.getElem_mem _
   have HX := AsM (HI.out x hxm)
   rw [hx] at g0
   have q0 := frd g0 HF.out
   have d1 := frd d0 HF.out
   by_cases h0 : i = 0
   ·subst h0
    have HPI : Aside0 (poolI pool 0 = uvar (zig x)) := ⟨by unfold poolI; rw [if_pos rfl, hx]⟩
    have q0' : wr.cell? ad = some (.int .i64 x) := (add0 ad) ▸ q0
    clear hx hxm g0
    go_wp2_with (first | (go_at_call 11; ((with_reducible refine (CI.out _ _ _ _ HB.out HF.out HX.out (by have := HLN.out 0 (by omega); omega)).mono ?_); rintro e W2 ⟨v2, rfl, hB2, hG2⟩; have HB2 := AsM hB2; have HF2 : Aside0 (Fr w W2 []) := ⟨hG2.fr HB.out HF.out⟩; clear hB2 hG2)))
    go_roundg (pool.length - 1)
    case measure => have := HM.out; omega
    case rel => exact ⟨1, by first | rfl | go_num, by omega, ⟨Nat.le_refl _⟩, ⟨by rw [pool_snoc, HPI.out]; exact HB2.out⟩, HF2⟩
   ·obtain ⟨j, hj⟩ : ∃ j, i - 1 = j := ⟨_, rfl⟩
    obtain ⟨ad', e', g1⟩ := pl_at HR.out j (by omega)
    obtain rfl : ad = ad' := by injection e'
    obtain ⟨y, hy⟩ : ∃ y, pool.getD j 0 = y := ⟨_, rfl⟩
    have hym : y ∈ pool := by rw [← hy, List.getD_eq_getElem?_getD, List.getElem?_eq_getElem (by omega)]; exact List.getElem_mem _
    have HY := AsM (HI.out y hym)
    rw [hy] at g1
    have q1 := frd g1 HF.out
    have HPI : Aside0 (poolI pool i = uvar (poolD x y).toNat) := ⟨by unfold poolI; rw [if_neg h0, hx, hj, hy]⟩
    have hd : decide (i = 0) = false := decide_eq_false h0
    have p2 : (0 : Int) ≤ (i : Int) - 1 := by omega
    have p3 : (i : Int) - 1 < pool.length := by omega
    have tn : ((i : Int) - 1).toNat = j := by omega
    have HE : Aside0 (IntKind.u64.wrap (IntKind.u64.wrap (IntKind.u64.wrap x - IntKind.u64.wrap y) - 1) = poolD x y) := ⟨by rw [wrapU, wrapU, wrapU, wrapU]; unfold poolD; omega⟩
    have HD : Aside0 (0 ≤ poolD x y ∧ poolD x y < 18446744073709551616) := ⟨by unfold poolD; omega⟩
    clear hx hxm g0 e' hy hym g1
    go_wp2_with (first | (go_at_call 10; (rw [HE.out]; (with_reducible refine (CU.out _ _ _ _ HB.out HF.out HD.out.1 HD.out.2 (by have := HLN.out i hi; omega)).mono ?_); rintro e W2 ⟨v2, rfl, hB2, hG2⟩; have HB2 := AsM hB2; have HF2 : Aside0 (Fr w W2 []) := ⟨hG2.fr HB.out HF.out⟩; clear hB2 hG2)))
    go_roundg (pool.length - (i + 1))
    case measure => have := HM.out; omega
    case rel => exact ⟨i + 1, by go_num, by omega, ⟨Nat.le_refl _⟩, ⟨by rw [pool_snoc, HPI.out]; exact HB2.out⟩, HF2⟩
  ·obtain rfl : i = pool.length := by omega
   have n3 : decide (pool.length < pool.length) = false := by simp
   go_wp2
   go_ret
   exact ⟨_, rfl, HB.out, HF.out⟩
abbrev Seg := S54
def lastD (ds : List Seg) (i : Nat) : Int := if i = 0 then -1 else (ds.getD (i - 1) z54).f0
def dayI (ds : List Seg) (i : Nat) : List Int := uvar (poolD (ds.getD i z54).f0 (lastD ds i)).toNat ++ (uvar (ds.getD i z54).f1.length ++ (uvar (codeL (ds.getD i z54).f1).length ++ codeL (ds.getD i z54).f1))
def daysL (ds : List Seg) (k : Nat) : List Int := uvar ds.length ++ (List.range k).flatMap (dayI ds)
theorem days_snoc (ds : List Seg) (k : Nat) : daysL ds (k + 1) = daysL ds k ++ dayI ds k := by
 unfold daysL
 rw [List.range_succ, List.flatMap_append]
 simp
structure DaysOk (ds : List Seg) : Prop where
 most : ds.length ≤ 100000
 ok : ∀ s ∈ ds, CodeOk s.f1
theorem seg_mem {ds : List Seg} {i : Nat} (hi : i < ds.length) : ds.getD i z54 ∈ ds := by
 rw [List.getD_eq_getElem?_getD, List.getElem?_eq_getElem hi]
 exact List.getElem_mem _
theorem CodeOk.full {l : List S113} (h : CodeOk l) : (codeL l).length ≤ 10000000 := by
 have := h.len l.length
 rwa [List.take_of_length_le (Nat.le_refl _)] at this
theorem CodeOk.byte {l : List S113} (h : CodeOk l) : ∀ b ∈ codeL l, 0 ≤ b ∧ b < 256 := by
 intro b hb
 obtain ⟨s, hs, hb⟩ := List.mem_flatMap.1 hb
 obtain ⟨o, x, y, n, rfl, h1, h2, h3, h4, h5, h6⟩ := h.at_ hs
 unfold insL at hb
 rcases List.mem_cons.1 hb with rfl | hb
 ·simp only; omega
 ·obtain ⟨z, hz, hb⟩ := List.mem_flatMap.1 hb
  have hz := List.mem_of_mem_take hz
  simp only [List.mem_cons, List.not_mem_nil, or_false] at hz
  refine uvar_byte64 ?_ b hb
  rcases hz with rfl | rfl <;> omega
theorem dayI_len {ds : List Seg} (h : DaysOk ds) (i : Nat) (hi : i < ds.length) : (dayI ds i).length ≤ 10000033 := by
 have h1 := h.ok _ (seg_mem hi)
 have h2 := h1.full
 have h3 := h1.most
 have e1 := uvar_len64 (x := (poolD (ds.getD i z54).f0 (lastD ds i)).toNat) (by unfold poolD; omega)
 have e2 := uvar_len64 (x := (ds.getD i z54).f1.length) (by omega)
 have e3 := uvar_len64 (x := (codeL (ds.getD i z54).f1).length) (by omega)
 unfold dayI
 simp only [List.length_append]
 omega
theorem daysL_len {ds : List Seg} (h : DaysOk ds) : ∀ k : Nat, k ≤ ds.length → (daysL ds k).length ≤ 11 + k * 10000033
 | 0, _ => by have := h.most; have := uvar_len64 (x := ds.length) (by omega); simp [daysL]; omega
 | k + 1, hk => by
  have h1 := daysL_len h k (by omega)
  have h2 := dayI_len h k (by omega)
  rw [days_snoc, List.length_append]
  omega
theorem dy_at {w : World} {A : Option Addr} {n : Nat} {xs : List Seg} (h : Kd.C k54 w A n xs) (k : Nat) (hk : k < n) : ∃ ad A1 c1, A = some ad ∧ w.cell? (ad.add (k * 2)) = some (.int .i64 (xs.getD k z54).f0) ∧ w.cell? ⟨(ad.add (k * 2)).block, (ad.add (k * 2)).off + 1, none⟩ = some (.slice A1 (xs.getD k z54).f1.length c1) ∧ (xs.getD k z54).f1.length ≤ c1 ∧ Kd.C k113 w A1 (xs.getD k z54).f1.length (xs.getD k z54).f1 := by
 obtain ⟨ad, A1, c1, e, h0, h1, h2, h3⟩ := at_T54 h (k : Int) (by omega) (by omega)
 simp only [rd_T54, Int.toNat_natCast] at h0 h1 h2 h3
 exact ⟨ad, A1, c1, e, h0, h1, h2, h3⟩
theorem writeDays_calls (g : Nat) (v0 v1 v2 v3 v4 v5 v6 : Value) (A : Option Addr) (c : Nat) (ds : List Seg) (w : World) (G : TabW w) (hb : w.heap[g]? = some (.cells #[v0, v1, v2, v3, v4, v5, v6, .slice A ds.length c] 26 (0, 0)))
  (hr : Kd.C k54 w A ds.length ds) (hs : DaysOk ds) :
  Calls Tryz.prog 70 #[.pointer (some ⟨g, 0, none⟩)] w fun e w' => ∃ v, e = .returned v ∧ Buf False w' w.heap.size v (daysL ds ds.length) ∧ Fr w w' [] := by
 have d0 : w.cell? ⟨g, 7, none⟩ = some (.slice A ds.length c) := blk_cell hb 7
 have HR := AsM hr
 have HS := AsM hs
 have HG := AsM G
 have hmo := hs.most
 have HLN : Aside0 (∀ k, k ≤ ds.length → (daysL ds k).length ≤ 2000000000000) := ⟨fun k hk => by have := daysL_len hs k hk; omega⟩
 have hlt := blk_lt hb
 have hut := Tryz.underlying26
 have CU : Aside0 (∀ W v q (x : Int), Buf False W w.heap.size v q → Fr w W [] → 0 ≤ x → x < 18446744073709551616 → q.length ≤ 130000000000000 → Calls Tryz.prog 10 #[v, .int .u64 x] W (BufP False w.heap.size W v (q ++ uvar x.toNat))) := ⟨fun W v l x h1 h2 h3 h4 h5 => by
  obtain ⟨n, rfl⟩ : ∃ n : Nat, x = n := ⟨x.toNat, by omega⟩
  rw [Int.toNat_natCast]
  exact oUint_C n (by omega) h5 h1 h2.size⟩
 have CT : Aside0 (∀ W v q s, Buf False W w.heap.size v q → Fr w W [] → s.size ≤ 10000000000000 → q.length ≤ 130000000000000 → Calls Tryz.prog 20 #[v, .string s] W (BufP False w.heap.size W v (q ++ uvar s.size ++ sB s))) := ⟨fun W v l s h1 h2 h3 h4 => oAppendText_calls False _ W v l h1 h2.size s h3 h4⟩
 clear hb hr hs G
 go_enter Tryz.func70, Tryz.ntmps70
 go_wp2_with (first | (go_at_call 10; ((with_reducible refine (CU.out w (.slice none 0 0) [] (ds.length : Int) (Buf.nil _ _ _) (Fr.refl _ _) (by omega) (by omega) (by simp)).mono ?_); rintro e W1 ⟨v1, rfl, hB1, hG1⟩; have HB1 := AsM hB1; have HF1 : Aside0 (Fr w W1 []) := ⟨hG1.fr (Buf.nil False w _) (Fr.refl _ _)⟩; have d1 := frd d0 HF1.out; clear hB1 hG1)))
 go_loopg [3, 4, 21] ds.length (fun kq s3 s4 s21 wr => ∃ (i : Nat) (last : Int), s4 = .int .i64 last ∧ s21 = .int .i64 i ∧ i ≤ ds.length ∧ Aside0 (last = lastD ds i) ∧ Aside0 (ds.length - i ≤ kq) ∧ Aside0 (Buf False wr w.heap.size s3 (daysL ds i)) ∧ Aside0 (Fr w wr []))
 case atStart => exact ⟨0, -1, rfl, rfl, Nat.zero_le _, ⟨rfl⟩, ⟨Nat.le_refl _⟩, ⟨by simpa [daysL] using HB1.out⟩, HF1⟩
 case round =>
  clear HB1 HF1 d1
  obtain ⟨i, last, rfl, rfl, hi, HLA, HM, HB, HF⟩ := hrel
  by_cases hil : i < ds.length
  ·have n3 : decide (i < ds.length) = true := by simpa using hil
   have p0 : (0 : Int) ≤ (i : Int) := by omega
   have p1 : (i : Int) < ds.length := by omega
   obtain ⟨ad, B, cb, rfl, g0, g1, hcap, hC⟩ := dy_at HR.out i hil
   have hmem := seg_mem hil
   have HDI : Aside0 (daysL ds (i + 1) = daysL ds i ++ dayI ds i) := ⟨days_snoc ds i⟩
   have HLD : Aside0 (lastD ds (i + 1) = (ds.getD i z54).f0) := ⟨rfl⟩
   have HDE : Aside0 (dayI ds i = uvar (poolD (ds.getD i z54).f0 last).toNat ++ (uvar (ds.getD i z54).f1.length ++ (uvar (codeL (ds.getD i z54).f1).length ++ codeL (ds.getD i z54).f1))) := ⟨by rw [HLA.out]; rfl⟩
   obtain ⟨s, hsg⟩ : ∃ s, ds.getD i z54 = s := ⟨_, rfl⟩
   rw [hsg] at g0 g1 hcap hC hmem HLD HDE
   have hok := HS.out.ok s hmem
   obtain ⟨day, code⟩ := s
   simp only at g0 g1 hcap hC hok HLD HDE
   have q0 := frd g0 HF.out
   have q1 := frd g1 HF.out
   have hcl := hok.most
   have HCC := AsM hC
   have CE : Aside0 (∀ W, Fr w W [] → Calls Tryz.prog 101 #[.slice B code.length cb] W fun e w' => ∃ A c q, q = codeL code ∧ e = .returned (.tuple #[.slice A q.length c, .int .i64 0]) ∧ Kd.C (Kd.int .u8) w' A q.length q ∧ Fr W w' []) := ⟨fun W h => (encode_calls B cb code W (HG.out.fr0 h) (Kd.C_below hC h.below) hok).mono fun e w' ⟨v, h1, h2, h3⟩ => by
    obtain ⟨A', c', rfl, _, h4⟩ := h2.reads
    exact ⟨A', c', _, rfl, h1, h4, h3⟩⟩
   have HSZ : Aside0 (sB (strOfNums (codeL code)) = codeL code ∧ (strOfNums (codeL code)).size = (codeL code).length) := ⟨⟨sB_nums hok.byte, strOfNums_size _⟩⟩
   obtain ⟨st, hst⟩ : ∃ st, strOfNums (codeL code) = st := ⟨_, rfl⟩
   rw [hst] at HSZ
   have HST := AsM hst
   have HCL : Aside0 ((codeL code).length ≤ 10000000) := ⟨hok.full⟩
   have HE : Aside0 (IntKind.u64.wrap (wrap64 (wrap64 (day - last) - 1)) = poolD day last) := ⟨by rw [wrapU]; unfold poolD wrap64; omega⟩
   have HD : Aside0 (0 ≤ poolD day last ∧ poolD day last < 18446744073709551616) := ⟨by unfold poolD; omega⟩
   have L0 := AsM (HLN.out i hi)
   have U1 : Aside0 ((uvar (poolD day last).toNat).length ≤ 11) := ⟨uvar_len64 (by unfold poolD; omega)⟩
   have U2 : Aside0 ((uvar code.length).length ≤ 11) := ⟨uvar_len64 (by omega)⟩
   have hus := Tryz.underlying54
   clear hC hsg hmem g0 g1 hst hok
   go_wp2_with (first
    | (go_at_call 101; ((with_reducible refine (CE.out _ HF2.out).mono ?_); rintro e W3 ⟨A3, c3, q3, hq3, rfl, hC3, hF⟩; have hcv : (convert 32 9 (.slice A3 q3.length c3)).run Tryz.prog W3 = .ok (.string st) W3 := (by rw [← HST.out, ← hq3]; exact Kd.C_string Tryz.underlying32 Tryz.underlying5 Tryz.underlying9 hC3); have HF3 : Aside0 (Fr w W3 []) := ⟨HF2.out.tr hF⟩; have HB3 := AsM (HB2.out.fr hF); have hk3 := hF.bl HK2.out; have HK3 := AsM hk3; clear hF hC3 hq3 hk3))
    | (go_at_call 20; ((with_reducible refine (CT.out _ _ _ st HB3.out HF3.out (by have := HSZ.out.2; have := HCL.out; omega) (by have := L0.out; have := U1.out; have := U2.out; simp only [List.length_append, Int.toNat_natCast]; omega)).mono ?_); rintro e W4 ⟨v4, rfl, hB4, hG4⟩; have HB4 := AsM hB4; have HF4 : Aside0 (Fr w W4 []) := ⟨hG4.fr HB3.out HF3.out⟩; have hk4 := hG4.typ HB3.out HK3.out (by decide); have f0 := blk_cell hk4 0; clear hB4 hG4 hk4))
    | (go_at_call 10; ((with_reducible refine (CU.out W1 _ _ (code.length : Int) HB1.out HF1.out (by omega) (by omega) (by have := L0.out; have := U1.out; simp only [List.length_append]; omega)).mono ?_); rintro e W2 ⟨v2, rfl, hB2, hG2⟩; have HF2 : Aside0 (Fr w W2 []) := ⟨hG2.fr HB1.out HF1.out⟩; have hk2 := hG2.typ HB1.out HK1.out (by decide); have HK2 := AsM hk2; have f1 := blk_cell hk2 1; have HB2 := AsM hB2; clear hB2 hG2 hk2))
    | (go_at_call 10; (rw [HE.out]; (with_reducible refine (CU.out _ _ _ _ (HB.out.fr ((Fr.refl _ _).alloc _)) (HF.out.alloc _) HD.out.1 HD.out.2 (by have := L0.out; omega)).mono ?_); rintro e W1 ⟨v1, rfl, hB1, hG1⟩; have HF1 : Aside0 (Fr w W1 []) := ⟨hG1.fr (HB.out.fr ((Fr.refl _ _).alloc _)) (HF.out.alloc _)⟩; have hk1 := hG1.typ (HB.out.fr ((Fr.refl _ _).alloc _)) (blk_newN rfl) (by decide); have HK1 := AsM hk1; have f1 := blk_cell hk1 1; have HB1 := AsM hB1; clear hB1 hG1 hk1)))
   go_roundg (ds.length - (i + 1))
   case measure => have := HM.out; omega
   case rel => exact ⟨i + 1, day, rfl, by go_num, by omega, ⟨HLD.out.symm⟩, ⟨Nat.le_refl _⟩, ⟨by rw [HDI.out, HDE.out]; have h := HB4.out; rw [HSZ.out.1, HSZ.out.2] at h; simpa [List.append_assoc] using h⟩, HF4⟩
  ·obtain rfl : i = ds.length := by omega
   have n3 : decide (ds.length < ds.length) = false := by simp
   go_wp2
   go_ret
   exact ⟨_, rfl, HB.out, HF.out⟩
theorem ord1_calls (g : Nat) (A : Option Addr) (c : Nat) (l : List ByteArray) (v1 v2 v3 v4 v5 v6 v7 : Value) (w : World) (hb : w.heap[g]? = some (.cells #[.slice A l.length c, v1, v2, v3, v4, v5, v6, v7] 26 (0, 0)))
  (hr : Kd.C Kd.string w A l.length l) (hf : Few l) :
  Calls Tryz.prog 60 #[.pointer (some ⟨g, 0, none⟩)] w fun e w' => ∃ v, e = .returned v ∧ Buf False w' w.heap.size v (textsL l) ∧ Fr w w' [] := by
 have d0 : w.cell? ⟨g, 0, none⟩ = some (.slice A l.length c) := blk_cell hb 0
 have hlt := blk_lt hb
 have hut := Tryz.underlying26
 have CW := AsM (writeTexts_calls A c l w hr hf)
 clear hb hr hf
 go_enter Tryz.func60, Tryz.ntmps60
 go_wp2_with (first | (go_at_call 61; ((with_reducible refine CW.out.mono ?_); rintro e W1 ⟨v, rfl, hB, hF⟩; have HB := AsM hB; have HF := AsM hF; clear hB hF)))
 go_ret
 exact ⟨_, rfl, HB.out, HF.out⟩
theorem ord3_calls (g : Nat) (A : Option Addr) (c : Nat) (l : List ByteArray) (v0 v2 v3 v4 v5 v6 v7 : Value) (w : World) (hb : w.heap[g]? = some (.cells #[v0, .slice A l.length c, v2, v3, v4, v5, v6, v7] 26 (0, 0)))
  (hr : Kd.C Kd.string w A l.length l) (hf : Few l) :
  Calls Tryz.prog 64 #[.pointer (some ⟨g, 0, none⟩)] w fun e w' => ∃ v, e = .returned v ∧ Buf False w' w.heap.size v (textsL l) ∧ Fr w w' [] := by
 have d0 : w.cell? ⟨g, 1, none⟩ = some (.slice A l.length c) := blk_cell hb 1
 have hlt := blk_lt hb
 have hut := Tryz.underlying26
 have CW := AsM (writeTexts_calls A c l w hr hf)
 clear hb hr hf
 go_enter Tryz.func64, Tryz.ntmps64
 go_wp2_with (first | (go_at_call 61; ((with_reducible refine CW.out.mono ?_); rintro e W1 ⟨v, rfl, hB, hF⟩; have HB := AsM hB; have HF := AsM hF; clear hB hF)))
 go_ret
 exact ⟨_, rfl, HB.out, HF.out⟩
def ordT : Array Value := #[.int .i64 1, .func (.func 60) #[] #[], .func (.func 62) #[] #[], .int .i64 2, .func (.func 64) #[] #[], .func (.func 65) #[] #[], .int .i64 3, .func (.func 66) #[] #[], .func (.func 67) #[] #[], .int .i64 4, .func (.func 68) #[] #[], .func (.func 69) #[] #[], .int .i64 5, .func (.func 70) #[] #[], .func (.func 71) #[] #[]]
theorem inOrder_calls (w : World) : Calls Tryz.prog 39 #[] w fun e w' => e = .returned (.slice (some ⟨w.heap.size, 0, none⟩) 5 5) ∧ w'.heap[w.heap.size]? = some (.cells ordT 100 (0, 0)) ∧ Fr w w' [] := by
 go_enter Tryz.func39, Tryz.ntmps39
 go_wp2
 go_ret
 exact ⟨rfl, blk_newN rfl, FQ⟩
theorem store_fun (P : Program) (W : World) (cs : Array Value) (T : TypeId) (n : Nat) (f : Fn) (hn : n < cs.size) :
  (store ⟨W.heap.size, n, none⟩ (.func f #[] #[])).run P (W.alloc (.cells cs T)) = .ok () (W.alloc (.cells (cs.setIfInBounds n (.func f #[] #[])) T)) := by
 have hg : (W.alloc (.cells cs T)).heap[W.heap.size]? = some (.cells cs T (0, 0)) := blk_newN rfl
 have hcell : (W.alloc (.cells cs T)).cell? ⟨W.heap.size, n, none⟩ = some cs[n] := by
  unfold World.cell?
  rw [hg]
  simp [hn]
 have hfro : (W.alloc (.cells cs T)).frozen? ⟨W.heap.size, n, none⟩ = false := by
  unfold World.frozen?
  rw [hg]
  simp
 rw [run_store P _ _ _ _ rfl, hcell]
 simp [hfro]
 rw [setCell_eq_setRow _ _ _ cs T _ _ hg]
 simp [World.setRow, World.alloc, -World.alloc_eq]
 apply Array.ext_getElem?
 intro i
 rw [Array.getElem?_modify]
 by_cases h : W.heap.size = i
 ·subst h; simp
 ·simp [h, Array.getElem?_push, Ne.symm h]
def bigB (c : Int) : Bool := decide (65 ≤ c ∧ c ≤ 90)
def digB (c : Int) : Bool := decide (48 ≤ c ∧ c ≤ 57)
def namB (c : Int) : Bool := bigB c || digB c || c == 95
def namedB (s : ByteArray) : Bool := decide (1 ≤ s.size) && decide (s.size ≤ 31) && bigB (bt s 0) && (List.range s.size).all fun k => namB (bt s k)
def curB (s : ByteArray) : Bool := decide (s.size = 3) && bigB (bt s 0) && bigB (bt s 1) && bigB (bt s 2)
theorem big_calls (c : Int) (w : World) : Calls Tryz.prog 118 #[.int .u8 c] w fun e w' => e = .returned (.bool (bigB c)) ∧ Drawn0 w w' := by
 by_cases h : 65 ≤ c <;> by_cases h2 : c ≤ 90
 all_goals (
  rw [show bigB c = _ from rfl]
  go_enter Tryz.func118, Tryz.ntmps118
  go_wp2
  go_ret
  exact ⟨by simp [bigB, h, h2], DQ⟩)
theorem digit_calls (c : Int) (w : World) : Calls Tryz.prog 148 #[.int .u8 c] w fun e w' => e = .returned (.bool (digB c)) ∧ Drawn0 w w' := by
 by_cases h : 48 ≤ c <;> by_cases h2 : c ≤ 57
 all_goals (
  rw [show digB c = _ from rfl]
  go_enter Tryz.func148, Tryz.ntmps148
  go_wp2
  go_ret
  exact ⟨by simp [digB, h, h2], DQ⟩)
theorem named_no {s : ByteArray} {k : Nat} {c : Int} (hc : bt s k = c) (h : namB c = false) (hk : k < s.size) : Ending.returned (.bool false) = Ending.returned (.bool (namedB s)) := by
 have : namedB s = false := by
  unfold namedB
  rw [Bool.and_eq_false_iff]
  right
  rw [List.all_eq_false]
  exact ⟨k, List.mem_range.2 hk, by rw [hc, h]; simp⟩
 rw [this]
theorem named_yes {s : ByteArray} (h1 : 1 ≤ s.size) (h2 : s.size ≤ 31) (h3 : bigB (bt s 0) = true) (h4 : ∀ j : Nat, j < s.size → namB (bt s j) = true) : Ending.returned (.bool true) = Ending.returned (.bool (namedB s)) := by
 have : namedB s = true := by
  unfold namedB
  rw [h3, List.all_eq_true.2 (fun k hk => h4 k (List.mem_range.1 hk))]
  simp [h1, h2]
 rw [this]
theorem named_calls (s : ByteArray) (w : World) : Calls Tryz.prog 117 #[.string s, .func (Fn.func 118) #[] #[]] w fun e w' => e = .returned (.bool (namedB s)) ∧ Drawn0 w w' := by
 have BIG : ∀ (c : Int) (b : Bool), bigB c = b → ∀ w, Calls Tryz.prog 118 #[.int .u8 c] w fun e w' => e = .returned (.bool b) ∧ Drawn0 w w' := fun c b h w => h ▸ big_calls c w
 have DIG : ∀ (c : Int) (b : Bool), digB c = b → ∀ w, Calls Tryz.prog 148 #[.int .u8 c] w fun e w' => e = .returned (.bool b) ∧ Drawn0 w w' := fun c b h w => h ▸ digit_calls c w
 have BIG' := AsM BIG
 have DIG' := AsM DIG
 clear BIG DIG
 by_cases h1 : s.size < 1
 ·have n1 : decide (s.size < 1) = true := by simpa using h1
  rw [show namedB s = false by unfold namedB; rw [show decide (1 ≤ s.size) = false from decide_eq_false (by omega)]; rfl]
  go_enter Tryz.func117, Tryz.ntmps117
  go_wp2
  go_ret
  exact ⟨rfl, DQ⟩
 by_cases h2 : 31 < s.size
 ·have n1 : decide (s.size < 1) = false := by simpa using h1
  have n2 : decide (31 < s.size) = true := by simpa using h2
  rw [show namedB s = false by unfold namedB; rw [show decide (s.size ≤ 31) = false from decide_eq_false (by omega)]; simp]
  go_enter Tryz.func117, Tryz.ntmps117
  go_wp2
  go_ret
  exact ⟨rfl, DQ⟩
 have n1 : decide (s.size < 1) = false := by simpa using h1
 have n2 : decide (31 < s.size) = false := by simpa using h2
 have n0 : 0 < s.size := by omega
 obtain ⟨c0, hc0⟩ : ∃ c, bt s 0 = c := ⟨_, rfl⟩
 have hx0 : ∀ h : 0 < s.size, ((s[0]'h).toNat : Int) = c0 := fun h => (bt_at s 0 h).trans hc0
 have HC0 := AsM hc0
 clear hc0
 cases hb0 : bigB c0
 ·have HB0 := AsM hb0
  clear hb0
  have HN : Aside0 (namedB s = false) := ⟨by unfold namedB; rw [HC0.out, HB0.out]; simp⟩
  rw [HN.out]
  go_enter Tryz.func117, Tryz.ntmps117
  go_wp2_with (first | (go_at_call 118; (refine (BIG'.out c0 false HB0.out _).mono ?_); rintro e w' ⟨rfl, ⟨nd, rfl⟩⟩))
  go_ret
  exact ⟨rfl, DQ⟩
 have HB0 := AsM hb0
 clear hb0
 go_enter Tryz.func117, Tryz.ntmps117
 go_wp2_with (first | (go_at_call 118; (refine (BIG'.out c0 true HB0.out _).mono ?_); rintro e w' ⟨rfl, ⟨nd, rfl⟩⟩))
 go_loopg [23] s.size (fun kq x wr => ∃ k : Nat, x = .int .i64 k ∧ k ≤ s.size ∧ Aside0 (s.size - k ≤ kq) ∧ Drawn0 w wr ∧ Aside0 (∀ j, j < k → namB (bt s j) = true))
 case atStart => exact ⟨0, rfl, Nat.zero_le _, ⟨Nat.le_refl _⟩, DQ, ⟨fun j hj => by omega⟩⟩
 case round =>
  obtain ⟨k, rfl, hk, HM, ⟨nk, rfl⟩, HA⟩ := hrel
  clear hx0
  by_cases hkl : k < s.size
  ·have n3 : decide (k < s.size) = true := by simpa using hkl
   have p0 : (0 : Int) ≤ (k : Int) := by omega
   have p1 : (k : Int) < s.size := by omega
   obtain ⟨c, hc⟩ : ∃ c, bt s k = c := ⟨_, rfl⟩
   have hx : ∀ h : k < s.size, ((s[k]'h).toNat : Int) = c := fun h => (by simpa using (bt_at s k (by simpa using h)).trans hc)
   have HC := AsM hc
   clear hc
   obtain ⟨bb, hbb⟩ : ∃ b, bigB c = b := ⟨_, rfl⟩
   obtain ⟨dd, hdd⟩ : ∃ b, digB c = b := ⟨_, rfl⟩
   have HBB := AsM hbb
   have HDD := AsM hdd
   clear hbb hdd
   have he : (c = 95) ∨ ((c == 95) = false ∧ (c != 95) = true) := by by_cases h : c = 95 <;> simp [h]
   cases bb with
   | true =>
    go_wp2_with (first | (go_at_call 118; (refine (BIG'.out c _ HBB.out _).mono ?_); rintro e w' ⟨rfl, ⟨nd, rfl⟩⟩) | (go_at_call 148; (refine (DIG'.out c _ HDD.out _).mono ?_); rintro e w' ⟨rfl, ⟨nd2, rfl⟩⟩))
    go_roundg (s.size - (k + 1))
    case measure => have := HM.out; omega
    case rel =>
     refine ⟨k + 1, by go_num, by omega, ⟨Nat.le_refl _⟩, DQ, ⟨fun j hj => ?_⟩⟩
     rcases Nat.lt_or_ge j k with h | h
     ·exact HA.out j h
     ·obtain rfl : j = k := by omega
      unfold namB
      rw [HC.out, HBB.out, HDD.out]
      simp
   | false =>
   cases dd with
   | true =>
    go_wp2_with (first | (go_at_call 118; (refine (BIG'.out c _ HBB.out _).mono ?_); rintro e w' ⟨rfl, ⟨nd, rfl⟩⟩) | (go_at_call 148; (refine (DIG'.out c _ HDD.out _).mono ?_); rintro e w' ⟨rfl, ⟨nd2, rfl⟩⟩))
    go_roundg (s.size - (k + 1))
    case measure => have := HM.out; omega
    case rel =>
     refine ⟨k + 1, by go_num, by omega, ⟨Nat.le_refl _⟩, DQ, ⟨fun j hj => ?_⟩⟩
     rcases Nat.lt_or_ge j k with h | h
     ·exact HA.out j h
     ·obtain rfl : j = k := by omega
      unfold namB
      rw [HC.out, HBB.out, HDD.out]
      simp
   | false =>
   rcases he with rfl | ⟨he, he2⟩
   ·go_wp2_with (first | (go_at_call 118; (refine (BIG'.out 95 _ HBB.out _).mono ?_); rintro e w' ⟨rfl, ⟨nd, rfl⟩⟩) | (go_at_call 148; (refine (DIG'.out 95 _ HDD.out _).mono ?_); rintro e w' ⟨rfl, ⟨nd2, rfl⟩⟩))
    go_roundg (s.size - (k + 1))
    case measure => have := HM.out; omega
    case rel =>
     refine ⟨k + 1, by go_num, by omega, ⟨Nat.le_refl _⟩, DQ, ⟨fun j hj => ?_⟩⟩
     rcases Nat.lt_or_ge j k with h | h
     ·exact HA.out j h
     ·obtain rfl : j = k := by omega
      unfold namB
      rw [HC.out, HBB.out, HDD.out]
      simp
   ·have HE := AsM he
    go_wp2_with (first | (go_at_call 118; (refine (BIG'.out c _ HBB.out _).mono ?_); rintro e w' ⟨rfl, ⟨nd, rfl⟩⟩) | (go_at_call 148; (refine (DIG'.out c _ HDD.out _).mono ?_); rintro e w' ⟨rfl, ⟨nd2, rfl⟩⟩))
    go_ret
    exact ⟨named_no HC.out (by unfold namB; rw [HBB.out, HDD.out, HE.out]; rfl) hkl, DQ⟩
  ·obtain rfl : k = s.size := by omega
   have n3 : decide (s.size < s.size) = false := by simp
   go_wp2
   go_ret
   exact ⟨named_yes (by omega) (by omega) (by rw [HC0.out]; exact HB0.out) HA.out, DQ⟩
theorem capital_calls (s : ByteArray) (w : World) : Calls Tryz.prog 88 #[.string s] w fun e w' => e = .returned (.bool (namedB s)) ∧ Drawn0 w w' := by
 obtain ⟨b, hb⟩ : ∃ b, namedB s = b := ⟨_, rfl⟩
 have HN : Aside0 (∀ w, Calls Tryz.prog 117 #[.string s, .func (Fn.func 118) #[] #[]] w fun e w' => e = .returned (.bool b) ∧ Drawn0 w w') := ⟨fun w => hb ▸ named_calls s w⟩
 rw [hb]
 clear hb
 go_enter Tryz.func88, Tryz.ntmps88
 go_wp2_with (first | (go_at_call 117; (refine (HN.out _).mono ?_); rintro e w' ⟨rfl, ⟨nd, rfl⟩⟩))
 go_ret
 exact ⟨rfl, DQ⟩
theorem currency_calls (s : ByteArray) (w : World) : Calls Tryz.prog 90 #[.string s] w fun e w' => e = .returned (.bool (curB s)) ∧ Drawn0 w w' := by
 have BIG' : Aside0 (∀ (c : Int) (b : Bool), bigB c = b → ∀ w, Calls Tryz.prog 118 #[.int .u8 c] w fun e w' => e = .returned (.bool b) ∧ Drawn0 w w') := ⟨fun c b h w => h ▸ big_calls c w⟩
 by_cases h3 : s.size = 3
 ·obtain ⟨c0, hc0⟩ : ∃ c, bt s 0 = c := ⟨_, rfl⟩
  obtain ⟨c1, hc1⟩ : ∃ c, bt s 1 = c := ⟨_, rfl⟩
  obtain ⟨c2, hc2⟩ : ∃ c, bt s 2 = c := ⟨_, rfl⟩
  have hx0 : ∀ h : 0 < s.size, ((s[0]'h).toNat : Int) = c0 := fun h => (bt_at s 0 h).trans hc0
  have hx1 : ∀ h : 1 < s.size, ((s[1]'h).toNat : Int) = c1 := fun h => (bt_at s 1 h).trans hc1
  have hx2 : ∀ h : 2 < s.size, ((s[2]'h).toNat : Int) = c2 := fun h => (bt_at s 2 h).trans hc2
  have n0 : 0 < s.size := by omega
  have n1 : 1 < s.size := by omega
  have n2 : 2 < s.size := by omega
  have n3 : ((s.size : Int) == 3) = true := by rw [h3]; rfl
  have HV : Aside0 (curB s = (bigB c0 && bigB c1 && bigB c2)) := ⟨by unfold curB; rw [hc0, hc1, hc2, show decide (s.size = 3) = true by simpa using h3]; rfl⟩
  obtain ⟨b0, hb0⟩ : ∃ b, bigB c0 = b := ⟨_, rfl⟩
  obtain ⟨b1, hb1⟩ : ∃ b, bigB c1 = b := ⟨_, rfl⟩
  obtain ⟨b2, hb2⟩ : ∃ b, bigB c2 = b := ⟨_, rfl⟩
  rw [HV.out, hb0, hb1, hb2]
  have HB0 := AsM hb0
  have HB1 := AsM hb1
  have HB2 := AsM hb2
  have H0 := AsM (BIG'.out c0 b0 hb0)
  have H1 := AsM (BIG'.out c1 b1 hb1)
  have H2 := AsM (BIG'.out c2 b2 hb2)
  clear hb0 hb1 hb2 hc0 hc1 hc2 HV h3 BIG'
  cases b0 <;> cases b1
  all_goals (
   go_enter Tryz.func90, Tryz.ntmps90
   go_wp2_with (first | (go_at_call 118; (with_reducible refine (H0.out _).mono ?_); rintro e w' ⟨rfl, ⟨nd, rfl⟩⟩) | (go_at_call 118; (with_reducible refine (H1.out _).mono ?_); rintro e w' ⟨rfl, ⟨nd2, rfl⟩⟩) | (go_at_call 118; (with_reducible refine (H2.out _).mono ?_); rintro e w' ⟨rfl, ⟨nd3, rfl⟩⟩))
   go_ret
   exact ⟨rfl, DQ⟩)
 ·have n3 : ((s.size : Int) == 3) = false := by rw [beq_eq_false_iff_ne]; omega
  rw [show curB s = false by unfold curB; rw [show decide (s.size = 3) = false by simpa using h3]; rfl]
  go_enter Tryz.func90, Tryz.ntmps90
  go_wp2
  go_ret
  exact ⟨rfl, DQ⟩
end Go.Proofs.YtpoehkacfmljcaaGreatDoor.H
