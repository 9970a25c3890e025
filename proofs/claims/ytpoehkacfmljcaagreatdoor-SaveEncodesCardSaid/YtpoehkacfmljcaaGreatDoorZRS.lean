/- payoffref04.Seal, of sections whose numbers are 1, 2, .. -/
import Derived.Test.YtpoehkacfmljcaaGreatDoorZV
import Derived.Test.YtpoehkacfmljcaaGreatDoorZOB
import Derived.Test.YtpoehkacfmljcaaGreatDoorZHB
set_option maxHeartbeats 4000000
set_option maxRecDepth 100000
namespace Go.Proofs.YtpoehkacfmljcaaGreatDoor.H
open Go.RowKit Go.Proofs.YtpoehkacfmljcaaGreatDoorW.PrintWords Go.Proofs.YtpoehkacfmljcaaGreatDoorW.PrintLast Go.Proofs.YtpoehkacfmljcaaGreatDoorW.PrintMore
open Go.ChangeMaps (setBlock)
attribute [local go_sem] max2_int min2_int max_two min_two max_three min_three max_four min_four
set_option linter.unusedVariables false
set_option linter.unusedSimpArgs false
open Go.Proofs.YtpoehkacfmljcaaGreatDoor.M
theorem sound_calls (A : Option Addr) (c : Nat) (ss : List S50) (w : World) (hr : Kd.C k50 w A ss.length ss) (hs : Secs ss) :
  Calls Tryz.prog 25 #[.slice A ss.length c] w fun e w' => e = .returned (.bool true) ∧ Drawn0 w w' := by
 have HR := AsM hr
 have HS := AsM hs
 have hmo := hs.most
 have hut := Tryz.underlying50
 clear hr hs
 go_enter Tryz.func25, Tryz.ntmps25
 go_wp2
 go_loopg [3] ss.length (fun kq s3 wr => ∃ i : Nat, s3 = .int .i64 i ∧ i ≤ ss.length ∧ Aside0 (ss.length - i ≤ kq) ∧ Aside0 (Drawn0 w wr))
 case atStart => exact ⟨0, rfl, Nat.zero_le _, ⟨Nat.le_refl _⟩, ⟨Drawn0.refl _⟩⟩
 case round =>
  obtain ⟨i, rfl, hi, HM, HD⟩ := hrel
  by_cases hil : i < ss.length
  ·have n3 : decide (i < ss.length) = true := by simpa using hil
   have p0 : (0 : Int) ≤ (i : Int) := by omega
   have p1 : (i : Int) < ss.length := by omega
   have hf : Fr w wr [] := by obtain ⟨nd, h⟩ := HD.out; exact h ▸ (Fr.refl w []).drewN nd
   obtain ⟨ad, _, _, rfl, g0, _⟩ := sec_at HR.out i hil
   have hid := HS.out.id i hil
   rw [hid] at g0
   obtain ⟨j, hj⟩ : ∃ j : Nat, i + 1 = j := ⟨_, rfl⟩
   rw [hj] at g0
   have q0 := frd g0 hf
   have a1 : decide ((j : Int) < 1) = false := by simp; omega
   have a1' : decide (j < 1) = false := by simp; omega
   have a2 : decide ((255 : Int) < (j : Int)) = false := by simp; omega
   have a2' : decide (255 < j) = false := by simp; omega
   by_cases h0 : i = 0
   ·subst h0
    clear g0 hid hj
    have ea : ∀ a : Addr, a.add (0 * 2) = a := by intro a; obtain ⟨b, o, s⟩ := a; cases s <;> simp [Addr.add]
    have q0' : wr.cell? ad = some (.int .i64 j) := ea ad ▸ q0
    go_wp2
    go_quiet (fail)
    go_wp2
    go_roundg (ss.length - 1)
    case measure => have := HM.out; omega
    case rel => exact ⟨1, by first | rfl | go_num, by omega, ⟨Nat.le_refl _⟩, ⟨by repeat (first | exact HD.out | apply Drawn0.step)⟩⟩
   ·obtain ⟨k, hk⟩ : ∃ k, i - 1 = k := ⟨_, rfl⟩
    obtain ⟨ad', _, _, e', g1, _⟩ := sec_at HR.out k (by omega)
    obtain rfl : ad = ad' := by injection e'
    have hid1 := HS.out.id k (by omega)
    rw [hid1, show k + 1 = i by omega] at g1
    have q1 := frd g1 hf
    have b0 : decide ((0 : Int) < (i : Int)) = true := by simp; omega
    have b0' : decide (0 < i) = true := by simp; omega
    have b1 : decide ((j : Int) ≤ (i : Int)) = false := by simp; omega
    have b1' : decide (j ≤ i) = false := by simp; omega
    have p2 : (0 : Int) ≤ (k : Int) := by omega
    have p3 : (k : Int) < ss.length := by omega
    have hwr : IntKind.i64.wrap ((i : Int) - 1) = (k : Int) := by rw [i64_w]; unfold wrap64; omega
    have hwr' : wrap64 ((i : Int) - 1) = (k : Int) := by unfold wrap64; omega
    clear g0 g1 hid hid1 e' hk
    go_wp2
    go_quiet (fail)
    go_wp2
    go_roundg (ss.length - (i + 1))
    case measure => have := HM.out; omega
    case rel => exact ⟨i + 1, by go_num, by omega, ⟨Nat.le_refl _⟩, ⟨by repeat (first | exact HD.out | apply Drawn0.step)⟩⟩
  ·obtain rfl : i = ss.length := by omega
   have n3 : decide (ss.length < ss.length) = false := by simp
   have a6 : decide ((ss.length : Int) ≤ 64) = true := by simp; omega
   have a6' : decide (ss.length ≤ 64) = true := by simp; omega
   go_wp2
   go_ret
   exact ⟨rfl, by repeat (first | exact HD.out | apply Drawn0.step)⟩
def Sl (w : World) (A : Option Addr) (c : Nat) (l : List Int) : Prop := l.length ≤ c ∧ Kd.C (Kd.int .u8) w A l.length l
theorem Sl.fr {w w' : World} {A : Option Addr} {c : Nat} {l : List Int} (h : Sl w A c l) (hf : Fr w w' []) : Sl w' A c l := ⟨h.1, Kd.C_below h.2 hf.below⟩
theorem OwB.sl {l : List Int} {w : World} {e : Ending} {w' : World} (h : OwB l w e w') : ∃ A c q, q = l ∧ e = .returned (.slice A q.length c) ∧ Sl w' A c q ∧ Fr w w' [] := by
 obtain ⟨A, c, h1, h2, h3, h4⟩ := h.open_
 exact ⟨A, c, l, rfl, h1, ⟨h2, h3⟩, h4⟩
theorem OwB.own {l : List Int} {w : World} {e : Ending} {w' : World} (h : OwB l w e w') : ∃ v, e = .returned v ∧ Buf False w' w.heap.size v l ∧ Fr w w' [] := by
 obtain ⟨v, rfl, hR, hB⟩ := h
 exact ⟨v, rfl, Buf.of_own (Kd.own_of_R hR), Fr.of_below hB []⟩
theorem joined_sl {w : World} {A B : Option Addr} {c d : Nat} {a b : List Int} (ha : Sl w A c a) (hb : Sl w B d b) (hl : a.length + b.length ≤ 140000000000000) : Calls Tryz.prog 26 #[.slice A a.length c, .slice B b.length d] w (OwB (a ++ b) w) := joined_calls A c a B d b w ha.2 ha.1 hb.2 hb.1 hl
theorem rSeal_own (A : Option Addr) (c : Nat) (ss : List S50) (m : ByteArray) (hm : m.size = 8) (w : World) (hr : Kd.C k50 w A ss.length ss) (hc : ss.length ≤ c) (hs : Secs ss) :
  Calls Tryz.prog 16 #[.string m, .slice A ss.length c] w fun e w' => ∃ v, e = .returned (.tuple #[v, .int .i64 0]) ∧ Buf False w' w.heap.size v (sealL (sB m) ss) ∧ Fr w w' [] := by
 have HR := AsM hr
 have HS := AsM hs
 have hmo := hs.most
 have HLN : Aside0 (∀ i, (sB m ++ uvar ss.length ++ secsL (ss.take i)).length ≤ 65000000002000) := ⟨sealB_len hm hs⟩
 have CO : Aside0 (∀ W, Fr w W [] → Calls Tryz.prog 25 #[.slice A ss.length c] W fun e w' => e = .returned (.bool true) ∧ Drawn0 W w') := ⟨fun W h => sound_calls A c ss W (Kd.C_below hr h.below) hs⟩
 have CV : Aside0 (∀ W (x : Nat), x < 18446744073709551616 → Calls Tryz.prog 27 #[.int .u64 ((x : Nat) : Int)] W (OwB (uvar x) W)) := ⟨fun W x h => rVarint_calls h W⟩
 have CM : Aside0 (∀ W B d q, q = sealB (sB m) ss → Sl W B d q → Calls Tryz.prog 28 #[.slice B q.length d] W (OwB (sum4 (cval (crcL (sealB (sB m) ss)))) W)) := ⟨fun W B d q e h => e ▸ rSum_calls B d q W h.2 (e ▸ sealB_byte hs)⟩
 have CN : Aside0 (∀ W, ∃ A0 c0 q0 W0, q0 = sB m ∧ (convert 9 32 (.string m)).run Tryz.prog W = .ok (.slice A0 q0.length c0) W0 ∧ Sl W0 A0 c0 q0 ∧ Fr W W0 []) := ⟨fun W => by
  have h1 := buf_conv W m (by omega)
  obtain ⟨A0, c0, e, h2, h3⟩ := h1.reads
  exact ⟨A0, c0, _, _, rfl, e ▸ run_conv W m, ⟨h2, h3⟩, fr_conv _ _ _⟩⟩
 have hml : (m.size : Int) = 8 := by omega
 have HM8 := sB_len m
 clear hr hs
 go_enter Tryz.func16, Tryz.ntmps16
 go_wp2_with (first
  | (go_at_call 25; (with_reducible refine (CO.out _ FQ).mono ?_); rintro e w' ⟨rfl, ⟨nd, rfl⟩⟩; obtain ⟨A0, c0, q0, W0, hq0, hcv, hS0, hF0⟩ := CN.out (w.drewN nd); replace hF0 : Fr w W0 [] := ((Fr.refl w []).drewN nd).tr hF0; have HQ0 := AsM hq0; have HS0 := AsM hS0; have HF0 := AsM hF0; clear hq0 hS0 hF0)
  | (go_at_call 27; (with_reducible refine (CV.out _ ss.length (by omega)).mono ?_; rintro e W1 h1; obtain ⟨B1, d1, q1, hq1, rfl, hs1, hf1⟩ := h1.sl; have HQ1 := AsM hq1; have HS1 := AsM hs1; have HF1 : Aside0 (Fr W0 W1 []) := ⟨hf1⟩; clear h1 hq1 hs1 hf1))
  | (go_at_call 26; (with_reducible refine (joined_sl (HS0.out.fr HF1.out) HS1.out (by have h1 := congrArg List.length HQ1.out; have h0 := congrArg List.length HQ0.out; have := uvar_len64 (x := ss.length) (by omega); omega)).mono ?_; rintro e W2 h2; obtain ⟨B2, d2, q2, hq2, rfl, hs2, hf2⟩ := h2.sl; have HQ2 := AsM hq2; have HS2 := AsM hs2; have HF2 : Aside0 (Fr w W2 []) := ⟨(HF0.out.tr HF1.out).tr hf2⟩; clear h2 hq2 hs2 hf2)))
 clear hcv
 go_loopg [7, 8] ss.length (fun kq s7 s8 wr => ∃ (i : Nat) (B : Option Addr) (d : Nat) (q : List Int), s7 = .slice B q.length d ∧ s8 = .int .i64 i ∧ i ≤ ss.length ∧ Aside0 (ss.length - i ≤ kq) ∧ Aside0 (q = sB m ++ uvar ss.length ++ secsL (ss.take i)) ∧ Aside0 (Sl wr B d q) ∧ Aside0 (Fr w wr []))
 case atStart => exact ⟨0, _, _, _, rfl, rfl, Nat.zero_le _, ⟨Nat.le_refl _⟩, ⟨by rw [HQ2.out, HQ1.out, HQ0.out]; simp [secsL]⟩, HS2, HF2⟩
 case round =>
  clear HQ0 HS0 HF0 HQ1 HS1 HF1 HQ2 HS2 HF2
  obtain ⟨i, B, d, q, rfl, rfl, hi, HM, HQ, HSq, HF⟩ := hrel
  by_cases hil : i < ss.length
  ·have n3 : decide (i < ss.length) = true := by simpa using hil
   have p0 : (0 : Int) ≤ (i : Int) := by omega
   have p1 : (i : Int) < ss.length := by omega
   obtain ⟨ad, D, cb, rfl, g0, g1, hcap, hC⟩ := sec_at HR.out i hil
   obtain ⟨s, hsg⟩ : ∃ s, ss.getD i z50 = s := ⟨_, rfl⟩
   have hid := HS.out.id i hil
   have hmem : s ∈ ss := by rw [← hsg, List.getD_eq_getElem?_getD, List.getElem?_eq_getElem hil]; exact List.getElem_mem _
   have hbl := HS.out.len s hmem
   rw [hsg] at g0 g1 hcap hC hid
   have HSN : Aside0 (secsL (ss.take (i + 1)) = secsL (ss.take i) ++ secL s) := ⟨by rw [secsL_snoc ss i hil, hsg]⟩
   obtain ⟨di, body⟩ := s
   simp only at g0 g1 hcap hC hid hbl
   subst hid
   obtain ⟨j, hj⟩ : ∃ j : Nat, i + 1 = j := ⟨_, rfl⟩
   have hj64 : j ≤ 64 := by omega
   have HJ := AsM hj
   rw [hj] at g0 HSN
   have q0 := frd g0 HF.out
   have HG1 := AsM g1
   have HSB : Aside0 (Sl w D cb body) := ⟨⟨hcap, hC⟩⟩
   have HQL : Aside0 (q.length ≤ 65000000002000) := ⟨HQ.out ▸ HLN.out i⟩
   have HU1 : Aside0 ((uvar j).length ≤ 11) := ⟨uvar_len64 (by omega)⟩
   have HU2 : Aside0 ((uvar body.length).length ≤ 11) := ⟨uvar_len64 (by omega)⟩
   have hut := Tryz.underlying50
   clear hj hsg hmem hcap hC g0 g1
   go_wp2_with (first
    | (go_at_call 27; (with_reducible refine (CV.out W2 body.length (by omega)).mono ?_); rintro e W3 h3; obtain ⟨B3, d3, q3, hq3, rfl, hs3, hf3⟩ := h3.sl; have HQ3 := AsM hq3; have HS3 := AsM hs3; have HF3 : Aside0 (Fr W2 W3 []) := ⟨hf3⟩; clear h3 hq3 hs3 hf3)
    | (go_at_call 27; (with_reducible refine (CV.out _ j (by omega)).mono ?_; rintro e W1 h1; obtain ⟨B1, d1, q1, hq1, rfl, hs1, hf1⟩ := h1.sl; have HQ1 := AsM hq1; have HS1 := AsM hs1; have HF1 : Aside0 (Fr wr W1 []) := ⟨hf1⟩; clear h1 hq1 hs1 hf1))
    | (go_at_call 26; (with_reducible refine (joined_sl HS4.out ((HSB.out.fr HF.out).fr HF4.out) (by have h4 := congrArg List.length HQ4.out; have h3 := congrArg List.length HQ3.out; have h2 := congrArg List.length HQ2.out; have h1 := congrArg List.length HQ1.out; simp only [List.length_append] at h4 h2; have := HQL.out; have := HU1.out; have := HU2.out; omega)).mono ?_); rintro e W5 h5; obtain ⟨B5, d5, q5, hq5, rfl, hs5, hf5⟩ := h5.sl; have HQ5 := AsM hq5; have HS5 := AsM hs5; have HF5 : Aside0 (Fr wr W5 []) := ⟨HF4.out.tr hf5⟩; clear h5 hq5 hs5 hf5)
    | (go_at_call 26; (with_reducible refine (joined_sl (HS2.out.fr HF3.out) HS3.out (by have h3 := congrArg List.length HQ3.out; have h2 := congrArg List.length HQ2.out; have h1 := congrArg List.length HQ1.out; simp only [List.length_append] at h2; have := HQL.out; have := HU1.out; have := HU2.out; omega)).mono ?_); rintro e W4 h4; obtain ⟨B4, d4, q4, hq4, rfl, hs4, hf4⟩ := h4.sl; have HQ4 := AsM hq4; have HS4 := AsM hs4; have HF4 : Aside0 (Fr wr W4 []) := ⟨(HF2.out.tr HF3.out).tr hf4⟩; have r2 := frc HG1.out (HF.out.tr HF4.out) (by simp); clear h4 hq4 hs4 hf4)
    | (go_at_call 26; (with_reducible refine (joined_sl (HSq.out.fr HF1.out) HS1.out (by have h1 := congrArg List.length HQ1.out; have := HQL.out; have := HU1.out; omega)).mono ?_; rintro e W2 h2; obtain ⟨B2, d2, q2, hq2, rfl, hs2, hf2⟩ := h2.sl; have HQ2 := AsM hq2; have HS2 := AsM hs2; have HF2 : Aside0 (Fr wr W2 []) := ⟨HF1.out.tr hf2⟩; have r1 := frc HG1.out (HF.out.tr HF2.out) (by simp); clear h2 hq2 hs2 hf2)))
   go_roundg (ss.length - j)
   case measure => have := HM.out; have := HJ.out; omega
   case rel => exact ⟨j, _, _, _, rfl, by have := HJ.out; go_num, by have := HJ.out; omega, ⟨Nat.le_refl _⟩, ⟨by rw [HQ5.out, HQ4.out, HQ3.out, HQ2.out, HQ1.out, HQ.out, HSN.out]; simp [secL, List.append_assoc]⟩, HS5, ⟨HF.out.tr HF5.out⟩⟩
  ·obtain rfl : i = ss.length := by omega
   have n3 : decide (ss.length < ss.length) = false := by simp
   have hq : q = sealB (sB m) ss := by rw [HQ.out, List.take_of_length_le (Nat.le_refl _)]; rfl
   have HL6 : Aside0 (q.length ≤ 65000000002000) := ⟨HQ.out ▸ HLN.out ss.length⟩
   have HQ0 := AsM hq
   clear hq HQ
   go_wp2_with (first
    | (go_at_call 28; (with_reducible refine (CM.out _ _ _ _ HQ0.out HSq.out).mono ?_; rintro e W1 h1; obtain ⟨B1, d1, q1, hq1, rfl, hs1, hf1⟩ := h1.sl; have HQ1 := AsM hq1; have HS1 := AsM hs1; have HF1 : Aside0 (Fr wr W1 []) := ⟨hf1⟩; clear h1 hq1 hs1 hf1))
    | (go_at_call 26; (with_reducible refine (joined_sl (HSq.out.fr HF1.out) HS1.out (by have h1 := congrArg List.length HQ1.out; have := HL6.out; simp only [sum4, List.length_cons, List.length_nil] at h1; omega)).mono ?_; rintro e W2 h2; obtain ⟨v2, rfl, hB2, hf2⟩ := h2.own; have HB2 := AsM (hB2.lower (HF.out.tr HF1.out).size); have HF2 : Aside0 (Fr w W2 []) := ⟨(HF.out.tr HF1.out).tr hf2⟩; clear h2 hB2 hf2)))
   go_ret2
   exact ⟨_, rfl, by have h := HB2.out; rw [HQ1.out, HQ0.out] at h; exact h, HF2.out⟩
theorem rSeal_calls (A : Option Addr) (c : Nat) (ss : List S50) (m : ByteArray) (hm : m.size = 8) (w : World) (hr : Kd.C k50 w A ss.length ss) (hc : ss.length ≤ c) (hs : Secs ss) :
  Calls Tryz.prog 16 #[.string m, .slice A ss.length c] w fun e w' => ∃ B d q, q = sealL (sB m) ss ∧ e = .returned (.tuple #[.slice B q.length d, .int .i64 0]) ∧ Sl w' B d q ∧ Fr w w' [] :=
 (rSeal_own A c ss m hm w hr hc hs).mono fun e w' ⟨v, h1, h2, h3⟩ => by
  obtain ⟨B, d, rfl, h4, h5⟩ := h2.reads
  exact ⟨B, d, _, rfl, h1, ⟨h4, h5⟩, h3⟩
theorem strc_at {w : World} {A : Option Addr} {n : Nat} {xs : List ByteArray} (h : Kd.C Kd.string w A n xs) (k : Nat) (hk : k < n) : ∃ ad, A = some ad ∧ w.cell? (ad.add k) = some (.string (xs.getD k ByteArray.empty)) := by
 obtain ⟨ad, e, hc⟩ := ReadsOf.at_ (enc := Value.string) (d := ByteArray.empty) (Kd.reads_of_C h) (k : Int) (by omega) (by omega)
 exact ⟨ad, e, by simpa [rdOf] using hc⟩
def txtL (s : ByteArray) : List Int := uvar s.size ++ sB s
def textsL (l : List ByteArray) : List Int := uvar l.length ++ l.flatMap txtL
theorem txts_snoc (l : List ByteArray) (i : Nat) (hi : i < l.length) : (l.take (i + 1)).flatMap txtL = (l.take i).flatMap txtL ++ txtL (l.getD i ByteArray.empty) := by
 rw [List.take_add_one, List.getElem?_eq_getElem hi, List.getD_eq_getElem?_getD, List.getElem?_eq_getElem hi, List.flatMap_append]
 simp
structure Few (l : List ByteArray) : Prop where
 most : l.length ≤ 100000
 len : ∀ s ∈ l, s.size ≤ 1000000000
theorem txts_len : ∀ (l : List ByteArray), (∀ s ∈ l, s.size ≤ 1000000000) → (l.flatMap txtL).length ≤ l.length * 1000000011
 | [], _ => by simp
 | s :: l, h => by
  have h1 := txts_len l (fun x hx => h x (List.mem_cons_of_mem _ hx))
  have h2 := h s List.mem_cons_self
  have h3 := uvar_len64 (x := s.size) (by omega)
  have h4 := sB_len s
  simp only [List.flatMap_cons, txtL, List.length_append, List.length_cons] at h1 ⊢
  omega
theorem Few.pre {l : List ByteArray} (h : Few l) (i : Nat) : (uvar l.length ++ (l.take i).flatMap txtL).length ≤ 100001000000000 := by
 have h0 := h.most
 have h1 := uvar_len64 (x := l.length) (by omega)
 have h2 := txts_len (l.take i) (fun s hs => h.len s (List.mem_of_mem_take hs))
 have h3 : (l.take i).length ≤ 100000 := by rw [List.length_take]; omega
 rw [List.length_append]
 omega
theorem txts_byte (l : List ByteArray) (h : ∀ s ∈ l, s.size ≤ 1000000000) : ∀ b ∈ l.flatMap txtL, 0 ≤ b ∧ b < 256 := by
 intro b hb
 obtain ⟨s, hs, hb⟩ := List.mem_flatMap.1 hb
 rcases List.mem_append.1 hb with hb | hb
 ·exact uvar_byte64 (by have := h s hs; omega) b hb
 ·obtain ⟨x, _, rfl⟩ := List.mem_map.1 hb
  have := x.toNat_lt
  omega
theorem writeTexts_calls (A : Option Addr) (c : Nat) (l : List ByteArray) (w : World) (hr : Kd.C Kd.string w A l.length l) (hf : Few l) :
  Calls Tryz.prog 61 #[.slice A l.length c] w fun e w' => ∃ v, e = .returned v ∧ Buf False w' w.heap.size v (textsL l) ∧ Fr w w' [] := by
 have HR := AsM hr
 have HFW := AsM hf
 have hmo := hf.most
 have HPR : Aside0 (∀ i, (uvar l.length ++ (l.take i).flatMap txtL).length ≤ 100001000000000) := ⟨hf.pre⟩
 have CU : Aside0 (Calls Tryz.prog 10 #[.slice none 0 0, .int .u64 ((l.length : Nat) : Int)] w (BufP False w.heap.size w (.slice none 0 0) ([] ++ uvar l.length))) := ⟨oUint_C l.length (by omega) (by simp) (Buf.nil _ _ _) (Nat.le_refl _)⟩
 have CT : Aside0 (∀ W v q s, Buf False W w.heap.size v q → Fr w W [] → s.size ≤ 10000000000000 → q.length ≤ 130000000000000 → Calls Tryz.prog 20 #[v, .string s] W (BufP False w.heap.size W v (q ++ uvar s.size ++ sB s))) := ⟨fun W v l s h1 h2 h3 h4 => oAppendText_calls False _ W v l h1 h2.size s h3 h4⟩
 clear hr hf
 go_enter Tryz.func61, Tryz.ntmps61
 go_wp2_with (first | (go_at_call 10; ((with_reducible refine CU.out.mono ?_); rintro e W1 ⟨v1, rfl, hB1, hG1⟩; have HB1 := AsM hB1; have HF1 : Aside0 (Fr w W1 []) := ⟨hG1.fr (Buf.nil False w _) (Fr.refl _ _)⟩; clear hB1 hG1)))
 go_loopg [3, 12] l.length (fun kq s3 s12 wr => ∃ (i : Nat), s12 = .int .i64 i ∧ i ≤ l.length ∧ Aside0 (l.length - i ≤ kq) ∧ Aside0 (Buf False wr w.heap.size s3 (uvar l.length ++ (l.take i).flatMap txtL)) ∧ Aside0 (Fr w wr []))
 case atStart => exact ⟨0, rfl, Nat.zero_le _, ⟨Nat.le_refl _⟩, ⟨by simpa using HB1.out⟩, HF1⟩
 case round =>
  clear HB1 HF1
  obtain ⟨i, rfl, hi, HM, HB, HF⟩ := hrel
  by_cases hil : i < l.length
  ·have n3 : decide (i < l.length) = true := by simpa using hil
   have p0 : (0 : Int) ≤ (i : Int) := by omega
   have p1 : (i : Int) < l.length := by omega
   obtain ⟨ad, rfl, g0⟩ := strc_at HR.out i hil
   obtain ⟨s, hsg⟩ : ∃ s, l.getD i ByteArray.empty = s := ⟨_, rfl⟩
   have hmem : s ∈ l := by rw [← hsg, List.getD_eq_getElem?_getD, List.getElem?_eq_getElem hil]; exact List.getElem_mem _
   have hsz := HFW.out.len s hmem
   rw [hsg] at g0
   have HSN : Aside0 ((l.take (i + 1)).flatMap txtL = (l.take i).flatMap txtL ++ txtL s) := ⟨by rw [txts_snoc l i hil, hsg]⟩
   have q0 := frd g0 HF.out
   clear hsg hmem g0
   go_wp2_with (first | (go_at_call 20; ((with_reducible refine (CT.out _ _ _ _ HB.out HF.out (by omega) (by have := HPR.out i; omega)).mono ?_); rintro e W2 ⟨v2, rfl, hB2, hG2⟩; have HB2 := AsM hB2; have HF2 : Aside0 (Fr w W2 []) := ⟨hG2.fr HB.out HF.out⟩; clear hB2 hG2)))
   go_roundg (l.length - (i + 1))
   case measure => have := HM.out; omega
   case rel => exact ⟨i + 1, by go_num, by omega, ⟨Nat.le_refl _⟩, ⟨by rw [HSN.out]; simpa [txtL, List.append_assoc] using HB2.out⟩, HF2⟩
  ·obtain rfl : i = l.length := by omega
   have n3 : decide (l.length < l.length) = false := by simp
   go_wp2
   go_ret
   exact ⟨_, rfl, by have h := HB.out; rw [List.take_of_length_le (Nat.le_refl _)] at h; exact h, HF.out⟩
theorem rAppendText_calls (A : Option Addr) (c : Nat) (l : List Int) (s : ByteArray) (hs : s.size ≤ 10000000000000) (w : World) (ha : Sl w A c l) (hl : l.length ≤ 120000000000000) :
  Calls Tryz.prog 109 #[.slice A l.length c, .string s] w (OwB (l ++ txtL s) w) := by
 have HA := AsM ha
 have HL := AsM hl
 have CV : Aside0 (Calls Tryz.prog 27 #[.int .u64 ((s.size : Nat) : Int)] w (OwB (uvar s.size) w)) := ⟨rVarint_calls (by omega) w⟩
 have HU : Aside0 ((uvar s.size).length ≤ 11) := ⟨uvar_len64 (by omega)⟩
 have CN : Aside0 (∀ W, ∃ A0 c0 q0 W0, q0 = sB s ∧ (convert 9 32 (.string s)).run Tryz.prog W = .ok (.slice A0 q0.length c0) W0 ∧ Sl W0 A0 c0 q0 ∧ Fr W W0 []) := ⟨fun W => by
  have h1 := buf_conv W s (by omega)
  obtain ⟨A0, c0, e, h2, h3⟩ := h1.reads
  exact ⟨A0, c0, _, _, rfl, e ▸ run_conv W s, ⟨h2, h3⟩, fr_conv _ _ _⟩⟩
 clear ha hl
 go_enter Tryz.func109, Tryz.ntmps109
 go_wp2_with (first
  | (go_at_call 27; ((with_reducible refine CV.out.mono ?_); rintro e W1 h1; obtain ⟨B1, d1, q1, hq1, rfl, hs1, hf1⟩ := h1.sl; have HQ1 := AsM hq1; have HS1 := AsM hs1; have HF1 : Aside0 (Fr w W1 []) := ⟨hf1⟩; clear h1 hq1 hs1 hf1))
  | (go_at_call 26; (with_reducible refine (joined_sl (HS2.out.fr HF3.out) HS3.out (by have h3 := congrArg List.length HQ3.out; have h2 := congrArg List.length HQ2.out; have h1 := congrArg List.length HQ1.out; have h4 := sB_len s; have := HU.out; have := HL.out; simp only [List.length_append] at h2; omega)).mono ?_); rintro e W4 h4; have HO4 : Aside0 (OwB (l ++ txtL s) w e W4) := ⟨by have h := h4; rw [HQ3.out, HQ2.out, HQ1.out] at h; rw [List.append_assoc] at h; exact h.of_fr (HF2.out.tr HF3.out)⟩; obtain ⟨B4, d4, q4, hq4, rfl, hs4, hf4⟩ := h4.sl; clear h4 hq4 hs4 hf4)
  | (go_at_call 26; ((with_reducible refine (joined_sl (HA.out.fr HF1.out) HS1.out (by have h1 := congrArg List.length HQ1.out; have := HL.out; have := HU.out; omega)).mono ?_); rintro e W2 h2; obtain ⟨B2, d2, q2, hq2, rfl, hs2, hf2⟩ := h2.sl; obtain ⟨A3, c3, q3, W3, hq3, hcv, hS3, hF3⟩ := CN.out W2; have HQ3 := AsM hq3; have HS3 := AsM hS3; have HF3 := AsM hF3; have HQ2 := AsM hq2; have HS2 := AsM hs2; have HF2 : Aside0 (Fr w W2 []) := ⟨HF1.out.tr hf2⟩; clear h2 hq2 hs2 hf2 hq3 hS3 hF3)))
 go_ret
 exact HO4.out
def opsN (op : Int) : Nat := (kRow op.toNat).2.1.toNat
def insL (s : S113) : List Int := s.f0 :: (([s.f1, s.f2].take (opsN s.f0)).flatMap fun x => uvar x.toNat)
def codeL (l : List S113) : List Int := l.flatMap insL
theorem kRow_ok : ∀ i : Fin 29, 0 ≤ (kRow i).2.1 ∧ (kRow i).2.1 ≤ 2 ∧ (kRow i).2.2.1 ≤ 1000000 ∧ (kRow i).2.2.2.1 ≤ 1000000 := by decide +kernel
structure CodeOk (l : List S113) : Prop where
 most : l.length ≤ 262144
 ok : ∀ s ∈ l, validC s.f0 s.f1 s.f2 = 0
theorem CodeOk.at_ {l : List S113} (h : CodeOk l) {s : S113} (hs : s ∈ l) : ∃ o a b n : Nat, s = ⟨(o : Int), (a : Int), (b : Int)⟩ ∧ o < 29 ∧ a ≤ 1000000 ∧ b ≤ 1000000 ∧ (kRow o).2.1 = (n : Int) ∧ n ≤ 2 ∧ opsN (o : Int) = n := by
 obtain ⟨op, A, B⟩ := s
 have h1 := h.ok _ hs
 unfold validC at h1
 simp only at h1
 split at h1
 ·rename_i hc
  obtain ⟨c0, c1, c2, c3, c4, c5⟩ := hc
  have h2 := kRow_ok ⟨op.toNat, by omega⟩
  simp only at h2
  refine ⟨op.toNat, A.toNat, B.toNat, ((kRow op.toNat).2.1).toNat, by congr 1 <;> omega, by omega, by omega, by omega, by omega, by omega, ?_⟩
  unfold opsN
  rw [Int.toNat_natCast]
 ·omega
theorem ins_at {w : World} {A : Option Addr} {n : Nat} {xs : List S113} (h : Kd.C k113 w A n xs) (k : Nat) (hk : k < n) : ∃ ad, A = some ad ∧ w.cell? (ad.add (k * 3)) = some (.int .i64 (xs.getD k z113).f0) ∧ w.cell? ⟨(ad.add (k * 3)).block, (ad.add (k * 3)).off + 1, none⟩ = some (.int .i64 (xs.getD k z113).f1) ∧ w.cell? ⟨(ad.add (k * 3)).block, (ad.add (k * 3)).off + 2, none⟩ = some (.int .i64 (xs.getD k z113).f2) := by
 obtain ⟨ad, e, h0, h1, h2⟩ := at_T113 h (k : Int) (by omega) (by omega)
 simp only [rd_T113, Int.toNat_natCast] at h0 h1 h2
 exact ⟨ad, e, h0, h1, h2⟩
theorem insL_len {o a b n : Nat} (hn : opsN (o : Int) = n) (h2 : n ≤ 2) (ha : a ≤ 1000000) (hb : b ≤ 1000000) : (insL ⟨(o : Int), (a : Int), (b : Int)⟩).length ≤ 23 := by
 have h3 := uvar_len64 (x := a) (by omega)
 have h4 := uvar_len64 (x := b) (by omega)
 unfold insL
 simp only
 rw [hn]
 have : n = 0 ∨ n = 1 ∨ n = 2 := by omega
 rcases this with rfl | rfl | rfl <;> simp <;> omega
theorem codeL_len : ∀ (l : List S113), (∀ s ∈ l, (insL s).length ≤ 23) → (codeL l).length ≤ l.length * 23
 | [], _ => by simp [codeL]
 | s :: l, h => by
  have h1 := codeL_len l (fun x hx => h x (List.mem_cons_of_mem _ hx))
  have h2 := h s List.mem_cons_self
  simp only [codeL, List.flatMap_cons, List.length_append, List.length_cons] at h1 ⊢
  omega
theorem CodeOk.len {l : List S113} (h : CodeOk l) (i : Nat) : (codeL (l.take i)).length ≤ 10000000 := by
 have h1 := codeL_len (l.take i) (fun s hs => by
  obtain ⟨o, a, b, n, rfl, h1, h2, h3, h4, h5, h6⟩ := h.at_ (List.mem_of_mem_take hs)
  exact insL_len h6 h5 h2 h3)
 have h2 := h.most
 have h3 : (l.take i).length ≤ l.length := by rw [List.length_take]; omega
 omega
theorem codeL_snoc (l : List S113) (i : Nat) (hi : i < l.length) : codeL (l.take (i + 1)) = codeL (l.take i) ++ insL (l.getD i z113) := by
 rw [List.take_add_one, List.getElem?_eq_getElem hi, List.getD_eq_getElem?_getD, List.getElem?_eq_getElem hi, codeL, List.flatMap_append]
 simp [codeL]
theorem encode_calls (A : Option Addr) (c : Nat) (l : List S113) (w : World) (G : TabW w) (hr : Kd.C k113 w A l.length l) (hs : CodeOk l) :
  Calls Tryz.prog 101 #[.slice A l.length c] w fun e w' => ∃ v, e = .returned (.tuple #[v, .int .i64 0]) ∧ Buf False w' w.heap.size v (codeL l) ∧ Fr w w' [] := by
 have HR := AsM hr
 have HS := AsM hs
 have HG := AsM G
 have hmo := hs.most
 have hmi : (l.length : Int) ≤ 262144 := by omega
 have CU : Aside0 (∀ W v q (x : Nat), Buf False W w.heap.size v q → Fr w W [] → x < 18446744073709551616 → q.length ≤ 130000000000000 → Calls Tryz.prog 10 #[v, .int .u64 ((x : Nat) : Int)] W (BufP False w.heap.size W v (q ++ uvar x))) := ⟨fun W v l x h1 h2 h3 h4 => oUint_C x h3 h4 h1 h2.size⟩
 clear hr hs G
 go_enter Tryz.func101, Tryz.ntmps101
 go_wp2
 go_loopg [4, 14] l.length (fun kq s4 s14 wr => ∃ (i : Nat), s14 = .int .i64 i ∧ i ≤ l.length ∧ Aside0 (l.length - i ≤ kq) ∧ Aside0 (Buf False wr w.heap.size s4 (codeL (l.take i))) ∧ Aside0 (Fr w wr []))
 case atStart => exact ⟨0, rfl, Nat.zero_le _, ⟨Nat.le_refl _⟩, ⟨Buf.nil _ _ _⟩, ⟨FQ⟩⟩
 case round =>
  obtain ⟨i, rfl, hi, HM, HB, HF⟩ := hrel
  by_cases hil : i < l.length
  ·have n3 : decide (i < l.length) = true := by simpa using hil
   have p0 : (0 : Int) ≤ (i : Int) := by omega
   have p1 : (i : Int) < l.length := by omega
   obtain ⟨ad, rfl, g0, g1, g2⟩ := ins_at HR.out i hil
   obtain ⟨s, hsg⟩ : ∃ s, l.getD i z113 = s := ⟨_, rfl⟩
   have hmem : s ∈ l := by rw [← hsg, List.getD_eq_getElem?_getD, List.getElem?_eq_getElem hil]; exact List.getElem_mem _
   rw [hsg] at g0 g1 g2
   have HSN : Aside0 (codeL (l.take (i + 1)) = codeL (l.take i) ++ insL s) := ⟨by rw [codeL_snoc l i hil, hsg]⟩
   have hv0 := HS.out.ok s hmem
   obtain ⟨o, a, b, n, rfl, ho, ha, hb, hn, hn2, hon⟩ := HS.out.at_ hmem
   simp only at g0 g1 g2 hv0
   have HON := AsM hon
   have q0 := frd g0 HF.out
   have q1 := frd g1 HF.out
   have q2 := frd g2 HF.out
   have CW : Aside0 (∀ W, Fr w W [] → Calls Tryz.prog 92 #[.agg #[.int .i64 o, .int .i64 a, .int .i64 b]] W fun e w' => e = .returned (.int .i64 0) ∧ Fr W w' []) := ⟨fun W h => hv0 ▸ valid_calls o a b W (HG.out.fr0 h)⟩
   have HK : Aside0 (∀ W, Fr w W [] → W.cell? ⟨0, o * 6 + 1, none⟩ = some (.int .i64 n)) := ⟨fun W h => hn ▸ ((HG.out.fr0 h).knd o ho).2.1⟩
   have hut := Tryz.underlying113
   have HIL : Aside0 (insL ⟨(o : Int), (a : Int), (b : Int)⟩ = (o : Int) :: (([(a : Int), (b : Int)].take n).flatMap fun x => uvar x.toNat)) := ⟨by unfold insL; rw [HON.out]⟩
   have HUA : Aside0 ((uvar a).length ≤ 11) := ⟨uvar_len64 (by omega)⟩
   have b0 : (0 : Int) ≤ (o : Int) := by omega
   have b1 : (o : Int) < 29 := by omega
   have hu := Tryz.underlying187
   clear hsg hmem g0 g1 g2 hv0 hn hon
   go_wp2_with (first
    | (go_at_call 92; ((with_reducible refine (CW.out _ (HF.out.alloc _)).mono ?_); rintro e W1 ⟨rfl, hF⟩; have hk1 := hF.blk (blk_newN rfl) (by simp); have HF1 : Aside0 (Fr w W1 []) := ⟨(HF.out.alloc _).tr hF⟩; have HB1 := AsM ((HB.out.fr ((Fr.refl _ _).alloc _)).fr hF); obtain ⟨c0, c1, c2⟩ := cc3 hk1; have HK1 := AsM hk1; clear hF hk1))
    | ((with_reducible refine gate_builtin (b := .append) (xs := #[.tmp 21, .tmp 25]) rfl ?_); at_builtin; (refine wp_buf_one (mk := False) (b0 := w.heap.size) rfl (.tmp 21) (.tmp 25) rfl _ rfl rfl HB1.out HF1.out.size (by have := HS.out.len i; omega) ?_; intro v2 W2 hB2 hG2; have hk2 := hG2.typ HB1.out HK1.out (by decide); have HF2 : Aside0 (Fr w W2 []) := ⟨hG2.fr HB1.out HF1.out⟩; have HB2 := AsM hB2; obtain ⟨d0, d1, d2⟩ := cc3 hk2; have d3 := HK.out W2 HF2.out; clear hG2 hB2 hk2)))
   have hgl : 0 < W2.heap.size := by have := HG.out.lt; have := HF2.out.size; omega
   have hn3 : n = 0 ∨ n = 1 ∨ n = 2 := by omega
   rcases hn3 with rfl | rfl | rfl
   ·go_region_held3 (fun w' => w'.cell? ⟨wr.heap.size, 0, none⟩ = some (.int .i64 o) ∧ w'.cell? ⟨wr.heap.size, 1, none⟩ = some (.int .i64 a) ∧ w'.cell? ⟨wr.heap.size, 2, none⟩ = some (.int .i64 b) ∧ w'.cell? ⟨0, o * 6 + 1, none⟩ = some (.int .i64 0)) (first | (refine ⟨frc (L := []) d0 ?_ List.not_mem_nil, frc (L := []) d1 ?_ List.not_mem_nil, frc (L := []) d2 ?_ List.not_mem_nil, frc (L := []) d3 ?_ List.not_mem_nil⟩ <;> exact FQ) | go_keep) (fail)
    clear d0 d1 d2 d3 c0 c1 c2 q0 q1 q2
    obtain ⟨wo, hwo⟩ : ∃ wo : World, wo = wr := ⟨_, rfl⟩
    subst hwo
    go_wp2
    go_loopg [4, 39] 0 (fun kq s4 s39 w3 => ∃ k : Nat, s39 = .int .i64 k ∧ k ≤ 0 ∧ Aside0 (0 - k ≤ kq) ∧ Aside0 (Fr w w3 []) ∧ Aside0 (w3.heap[W2.heap.size]? = some (.cells #[.int .i64 a, .int .i64 b] 3 (0, 0))) ∧ Aside0 (Buf False w3 w.heap.size s4 (codeL (l.take i) ++ [(o : Int)] ++ ([(a : Int), (b : Int)].take k).flatMap fun x => uvar x.toNat)))
    case atStart => exact ⟨0, rfl, by omega, ⟨Nat.le_refl _⟩, ⟨FX HF2.out⟩, ⟨blk_drew (blk_newN rfl)⟩, ⟨by simpa using (HB2.out.fr (by exact FQ) : Buf False _ _ _ _)⟩⟩
    case round =>
     obtain ⟨k, rfl, hk, HMk, HFk, HAk, HBk⟩ := hrel
     obtain rfl : k = 0 := by omega
     go_wp2
     go_roundg (l.length - (i + 1))
     case measure => have := HM.out; omega
     case rel => exact ⟨i + 1, by go_num, by omega, ⟨Nat.le_refl _⟩, ⟨by rw [HSN.out, HIL.out]; simpa using HBk.out⟩, HFk⟩
   ·go_region_held3 (fun w' => w'.cell? ⟨wr.heap.size, 0, none⟩ = some (.int .i64 o) ∧ w'.cell? ⟨wr.heap.size, 1, none⟩ = some (.int .i64 a) ∧ w'.cell? ⟨wr.heap.size, 2, none⟩ = some (.int .i64 b) ∧ w'.cell? ⟨0, o * 6 + 1, none⟩ = some (.int .i64 1)) (first | (refine ⟨frc (L := []) d0 ?_ List.not_mem_nil, frc (L := []) d1 ?_ List.not_mem_nil, frc (L := []) d2 ?_ List.not_mem_nil, frc (L := []) d3 ?_ List.not_mem_nil⟩ <;> exact FQ) | go_keep) (fail)
    clear d0 d1 d2 d3 c0 c1 c2 q0 q1 q2
    obtain ⟨wo, hwo⟩ : ∃ wo : World, wo = wr := ⟨_, rfl⟩
    subst hwo
    go_wp2
    go_loopg [4, 39] 1 (fun kq s4 s39 w3 => ∃ k : Nat, s39 = .int .i64 k ∧ k ≤ 1 ∧ Aside0 (1 - k ≤ kq) ∧ Aside0 (Fr w w3 []) ∧ Aside0 (w3.heap[W2.heap.size]? = some (.cells #[.int .i64 a, .int .i64 b] 3 (0, 0))) ∧ Aside0 (Buf False w3 w.heap.size s4 (codeL (l.take i) ++ [(o : Int)] ++ ([(a : Int), (b : Int)].take k).flatMap fun x => uvar x.toNat)))
    case atStart => exact ⟨0, rfl, by omega, ⟨Nat.le_refl _⟩, ⟨FX HF2.out⟩, ⟨blk_drew (blk_newN rfl)⟩, ⟨by simpa using (HB2.out.fr (by exact FQ) : Buf False _ _ _ _)⟩⟩
    case round =>
     obtain ⟨k, rfl, hk, HMk, HFk, HAk, HBk⟩ := hrel
     have hkc : k = 0 ∨ k = 1 := by omega
     rcases hkc with rfl | rfl
     ·have hck : wr.cell? ⟨W2.heap.size, 0, none⟩ = some (.int .i64 a) := blk_cell HAk.out 0
      go_wp2_with (first | (go_at_call 10; ((with_reducible refine (CU.out _ _ _ a HBk.out HFk.out (by omega) (by have := HS.out.len i; have := HUA.out; simp; omega)).mono ?_); rintro e W4 ⟨v4, rfl, hB4, hG4⟩; have HF4 : Aside0 (Fr w W4 []) := ⟨hG4.fr HBk.out HFk.out⟩; have HA4 := AsM (hG4.typ HBk.out HAk.out (by decide)); have HB4 := AsM hB4; clear hB4 hG4)))
      go_roundg (1 - 1)
      case measure => have := HMk.out; omega
      case rel => exact ⟨1, by first | rfl | go_num, by omega, ⟨by omega⟩, HF4, HA4, ⟨by simpa using HB4.out⟩⟩
     ·go_wp2
      go_roundg (l.length - (i + 1))
      case measure => have := HM.out; omega
      case rel => exact ⟨i + 1, by go_num, by omega, ⟨Nat.le_refl _⟩, ⟨by rw [HSN.out, HIL.out]; simpa using HBk.out⟩, HFk⟩
   ·go_region_held3 (fun w' => w'.cell? ⟨wr.heap.size, 0, none⟩ = some (.int .i64 o) ∧ w'.cell? ⟨wr.heap.size, 1, none⟩ = some (.int .i64 a) ∧ w'.cell? ⟨wr.heap.size, 2, none⟩ = some (.int .i64 b) ∧ w'.cell? ⟨0, o * 6 + 1, none⟩ = some (.int .i64 2)) (first | (refine ⟨frc (L := []) d0 ?_ List.not_mem_nil, frc (L := []) d1 ?_ List.not_mem_nil, frc (L := []) d2 ?_ List.not_mem_nil, frc (L := []) d3 ?_ List.not_mem_nil⟩ <;> exact FQ) | go_keep) (fail)
    clear d0 d1 d2 d3 c0 c1 c2 q0 q1 q2
    obtain ⟨wo, hwo⟩ : ∃ wo : World, wo = wr := ⟨_, rfl⟩
    subst hwo
    go_wp2
    go_loopg [4, 39] 2 (fun kq s4 s39 w3 => ∃ k : Nat, s39 = .int .i64 k ∧ k ≤ 2 ∧ Aside0 (2 - k ≤ kq) ∧ Aside0 (Fr w w3 []) ∧ Aside0 (w3.heap[W2.heap.size]? = some (.cells #[.int .i64 a, .int .i64 b] 3 (0, 0))) ∧ Aside0 (Buf False w3 w.heap.size s4 (codeL (l.take i) ++ [(o : Int)] ++ ([(a : Int), (b : Int)].take k).flatMap fun x => uvar x.toNat)))
    case atStart => exact ⟨0, rfl, by omega, ⟨Nat.le_refl _⟩, ⟨FX HF2.out⟩, ⟨blk_drew (blk_newN rfl)⟩, ⟨by simpa using (HB2.out.fr (by exact FQ) : Buf False _ _ _ _)⟩⟩
    case round =>
     obtain ⟨k, rfl, hk, HMk, HFk, HAk, HBk⟩ := hrel
     have hkc : k = 0 ∨ k = 1 ∨ k = 2 := by omega
     rcases hkc with rfl | rfl | rfl
     ·have hck : wr.cell? ⟨W2.heap.size, 0, none⟩ = some (.int .i64 a) := blk_cell HAk.out 0
      go_wp2_with (first | (go_at_call 10; ((with_reducible refine (CU.out _ _ _ a HBk.out HFk.out (by omega) (by have := HS.out.len i; have := HUA.out; simp; omega)).mono ?_); rintro e W4 ⟨v4, rfl, hB4, hG4⟩; have HF4 : Aside0 (Fr w W4 []) := ⟨hG4.fr HBk.out HFk.out⟩; have HA4 := AsM (hG4.typ HBk.out HAk.out (by decide)); have HB4 := AsM hB4; clear hB4 hG4)))
      go_roundg (2 - 1)
      case measure => have := HMk.out; omega
      case rel => exact ⟨1, by first | rfl | go_num, by omega, ⟨by omega⟩, HF4, HA4, ⟨by simpa using HB4.out⟩⟩
     ·have hck : wr.cell? ⟨W2.heap.size, 1, none⟩ = some (.int .i64 b) := blk_cell HAk.out 1
      go_wp2_with (first | (go_at_call 10; ((with_reducible refine (CU.out _ _ _ b HBk.out HFk.out (by omega) (by have := HS.out.len i; have := HUA.out; simp; omega)).mono ?_); rintro e W4 ⟨v4, rfl, hB4, hG4⟩; have HF4 : Aside0 (Fr w W4 []) := ⟨hG4.fr HBk.out HFk.out⟩; have HA4 := AsM (hG4.typ HBk.out HAk.out (by decide)); have HB4 := AsM hB4; clear hB4 hG4)))
      go_roundg (2 - 2)
      case measure => have := HMk.out; omega
      case rel => exact ⟨2, by first | rfl | go_num, by omega, ⟨by omega⟩, HF4, HA4, ⟨by simpa using HB4.out⟩⟩
     ·go_wp2
      go_roundg (l.length - (i + 1))
      case measure => have := HM.out; omega
      case rel => exact ⟨i + 1, by go_num, by omega, ⟨Nat.le_refl _⟩, ⟨by rw [HSN.out, HIL.out]; simpa using HBk.out⟩, HFk⟩
  ·obtain rfl : i = l.length := by omega
   have n3 : decide (l.length < l.length) = false := by simp
   go_wp2
   go_ret2
   exact ⟨_, rfl, by have h := HB.out; rw [List.take_of_length_le (Nat.le_refl _)] at h; exact h, HF.out⟩
end Go.Proofs.YtpoehkacfmljcaaGreatDoor.H
