/- save.program: the last four bytes of the image. -/
import Derived.Test.YtpoehkacfmljcaaGreatDoorZV
import Derived.Test.YtpoehkacfmljcaaGreatDoorZHF
import Derived.Test.YtpoehkacfmljcaaGreatDoorZOB
set_option maxHeartbeats 4000000
set_option maxRecDepth 100000
namespace Go.Proofs.YtpoehkacfmljcaaGreatDoor.H
open Go.RowKit Go.Proofs.YtpoehkacfmljcaaGreatDoorW.PrintWords Go.Proofs.YtpoehkacfmljcaaGreatDoorW.PrintLast Go.Proofs.YtpoehkacfmljcaaGreatDoorW.PrintMore
open Go.ChangeMaps (setBlock)
attribute [local go_sem] max2_int min2_int max_two min_two max_three min_three max_four min_four
set_option linter.unusedVariables false
set_option linter.unusedSimpArgs false
open Go.Proofs.YtpoehkacfmljcaaGreatDoor.M
theorem slice_off (A : Option Addr) (n c l : Nat) (hl : l ≤ n) (hn : ¬ c = l) (w : World) : (Instr.slice 32 (.slice A n c) (some (.int .i64 l)) none none).run Tryz.prog w = .ok (.slice (A.map (·.add l)) (n - l) (c - l)) w := by
 have hu := Tryz.underlying32
 have hs : (sizeOf 5).run Tryz.prog w = .ok 1 w := by kernel_rfl
 rw [run_slice_l (P := Tryz.prog) w 32 A n c (by rw [hu]; rfl) .i64 (l : Int) (by omega) (by omega)]
 rw [show Tryz.prog.elem 32 = 5 from rfl, hs]
 simp only [Result.andThen, sliced, Int.toNat_natCast, if_neg hn, Nat.mul_one]
theorem sum4_length (c : Int) : (sum4 c).length = 4 := by simp [sum4]
def Prg.mark (p : Prg) : List Int := sum4 (cval (crcL (sealB (sB ⟨#[80, 65, 89, 79, 70, 70, 49, 10]⟩) p.secs)))
theorem Prg.mark_length (p : Prg) : p.mark.length = 4 := sum4_length _
theorem mark_cut {A : Option Addr} {c m : Nat} {p : Prg} {w : World} (h : Kd.C (Kd.int .u8) w A (sealL (sB ⟨#[80, 65, 89, 79, 70, 70, 49, 10]⟩) p.secs).length (sealL (sB ⟨#[80, 65, 89, 79, 70, 70, 49, 10]⟩) p.secs)) (hm : (sealL (sB ⟨#[80, 65, 89, 79, 70, 70, 49, 10]⟩) p.secs).length = m + 4) (hc : (sealL (sB ⟨#[80, 65, 89, 79, 70, 70, 49, 10]⟩) p.secs).length ≤ c) : Sl w (A.map (·.add m)) (c - m) p.mark := by
 have h1 := Kd.C_drop (m := m) h (by omega) hc
 rw [if_neg (by omega), show m * (Kd.int .u8).sz = m from Nat.mul_one m] at h1
 have h2 : (sealL (sB ⟨#[80, 65, 89, 79, 70, 70, 49, 10]⟩) p.secs).drop m = p.mark := by
  have h3 : (sealL (sB ⟨#[80, 65, 89, 79, 70, 70, 49, 10]⟩) p.secs) = sealB (sB ⟨#[80, 65, 89, 79, 70, 70, 49, 10]⟩) p.secs ++ p.mark := rfl
  rw [h3] at hm ⊢
  have := p.mark_length
  rw [List.length_append] at hm
  obtain rfl : (sealB (sB ⟨#[80, 65, 89, 79, 70, 70, 49, 10]⟩) p.secs).length = m := by omega
  exact List.drop_left
 rw [h2] at h1
 exact ⟨by have := p.mark_length; omega, h1⟩
theorem seal_four (m : List Int) (ss : List S50) : ∃ k, (sealL m ss).length = k + 4 := ⟨(sealB m ss).length, by rw [sealL, List.length_append, sum4_length]⟩
theorem program_calls (p : Prg) (v0 v1 v2 v3 v4 v5 v6 v7 : Value) (w : World)
  (hen : ∀ W, Fr w W [] → Calls Tryz.prog 23 #[.agg #[v0, v1, v2, v3, v4, v5, v6, v7]] W fun e w' => ∃ v, e = .returned (.tuple #[v, .int .i64 0]) ∧ Buf True w' W.heap.size v (sealL (sB ⟨#[80, 65, 89, 79, 70, 70, 49, 10]⟩) p.secs) ∧ Fr W w' []) :
  Calls Tryz.prog 14 #[.agg #[v0, v1, v2, v3, v4, v5, v6, v7]] w fun e w' => ∃ A c q, q = p.mark ∧ e = .returned (.slice A q.length c) ∧ Sl w' A c q ∧ Fr w w' [] := by
 have HEN := AsM hen
 clear hen
 obtain ⟨m, hm⟩ := seal_four (sB ⟨#[80, 65, 89, 79, 70, 70, 49, 10]⟩) p.secs
 have HM := AsM hm
 clear hm
 have hup := Tryz.underlying26
 have hub := Tryz.underlying32
 go_enter Tryz.func14, Tryz.ntmps14
 go_wp2_with (first
  | (go_at_call 23; ((with_reducible refine (HEN.out _ ?_).mono ?_); (next => exact FQ); rintro e W1 ⟨vb, rfl, hB, hF⟩; obtain ⟨A1, c1, rfl, hc1, hC1⟩ := hB.reads; have HS1 := AsM (mark_cut hC1 HM.out hc1); have hml : m + 4 ≤ 9223372036854775807 := (HM.out ▸ hB.len); have hw : IntKind.i64.wrap ((m : Int) + 4 - 4) = m := (by rw [i64_w]; unfold wrap64; omega); have hcm : ¬ c1 = m := (by have := HM.out; omega); have hsl := slice_off A1 (m + 4) c1 m (by omega) hcm; rw [HM.out]; have HF1 : Aside0 (Fr w W1 []) := ⟨Fr.trans (L := []) (M := []) FQ hF (by simp)⟩; clear hB hC1 hF)))
 go_ret
 exact ⟨_, _, p.mark, rfl, (by rw [p.mark_length]; rfl), HS1.out, HF1.out⟩
theorem buf_app_step {mk : Prop} {b0 : Nat} {w : World} {ops : Array Oper} {o : Oper} {a : Act} {Q : Exit → Act → World → Prop} {Kc : Act → World → Prop} (hw : Region.wanted o (yielded ops a.tmps) = true) (s x : Operand)
  (ho : o.op = .call { callee := .builtin .append, args := #[s, x], argTypes := #[32, 32] }) {v : Value} {l xs : List Int} {ad : Addr} {m c : Nat}
  (hs : a.eval s = v) (hx : a.eval x = .slice (some ad) m c) (hm : m = xs.length)
  (h : Buf mk w b0 v l) (hF : b0 ≤ w.heap.size) (hC : Kd.C (Kd.int .u8) w (some ad) xs.length xs) (hl : l.length + xs.length ≤ 140737488355328)
  (hk : ∀ v' w', Buf mk w' b0 v' (l ++ xs) → Gr w w' v v' → Kc (a.put o.dst v') w') : if Region.wanted o (yielded ops a.tmps) = true then Oper.wp Tryz.prog o a w Kc Q else Kc (a.put o.dst undef) w := by
 subst hm
 rw [if_pos hw]
 obtain ⟨v', w', hr, hB, hg⟩ := run_buf_app o.type h hC hl hF
 unfold Oper.wp execOp
 simp only [ho, resolve, invoke, builtin, Sem.run_bind, Sem.run_pure, Result.andThen_ok, List.map_toArray, List.map_cons, List.map_nil, hs, hx, hr]
 rw [hr, Result.andThen_ok]
 exact hk v' w' hB hg
theorem one_C (w : World) (b : Int) : Kd.C (Kd.int .u8) (w.alloc (.cells #[.int .u8 b] 5)) (some ⟨w.heap.size, 0, none⟩) [b].length [b] := by
 refine ⟨rfl, by simp, fun _ => ⟨_, rfl, fun j p hj => ?_⟩⟩
 obtain ⟨rfl, rfl⟩ : j = 0 ∧ p = b := by
  have h1 := (List.getElem?_eq_some_iff.1 hj).1
  have : j = 0 := by simpa using h1
  subst this
  exact ⟨rfl, by simpa using hj.symm⟩
 refine ⟨[.int .u8 p], rfl, rfl, fun i u hu => ?_⟩
 have hi : i = 0 := by
  have := (List.getElem?_eq_some_iff.1 hu).1
  simpa using this
 subst hi
 obtain rfl : Value.int .u8 p = u := by simpa using hu
 rw [Addr.add_lit]
 exact blk_cell (blk_newN rfl) 0
def cellL (h : Bool) (x : Int) : List Int := if h then 1 :: uvar (zig x) else [0]
theorem cell_calls (mk : Prop) (b0 : Nat) (w : World) (v : Value) (l : List Int) (hB : Buf mk w b0 v l) (hF : b0 ≤ w.heap.size) (h : Bool) (x : Int) (hx : -9223372036854775808 ≤ x ∧ x < 9223372036854775808) (hl : l.length ≤ 120000000000000) :
  Calls Tryz.prog 12 #[v, .agg #[.bool h, .int .i64 x]] w (BufP mk b0 w v (l ++ cellL h x)) := by
 have CI : Aside0 (∀ W v1, Buf mk W b0 v1 (l ++ [1]) → b0 ≤ W.heap.size → Calls Tryz.prog 11 #[v1, .int .i64 x] W (BufP mk b0 W v1 (l ++ [1] ++ uvar (zig x)))) := ⟨fun W v1 h1 h2 => oAppendInt_calls mk b0 W v1 _ h1 h2 hx (by rw [List.length_append]; simp; omega)⟩
 have HB := AsM hB
 have HF := AsM hF
 have hll : l.length < 140737488355328 := by omega
 have hu := Tryz.underlying45
 clear hB hF hl
 cases h
 ·go_enter Tryz.func12, Tryz.ntmps12
  go_wp2_with (first | ((with_reducible refine gate_builtin (b := .append) (xs := #[.tmp 8, .tmp 9]) rfl ?_); at_builtin; (refine wp_buf_one (mk := mk) (b0 := b0) rfl (.tmp 8) (.tmp 9) rfl 0 rfl (by have e : ∀ o : Obj, (w.alloc o).heap.size = w.heap.size + 1 := fun o => (by simp); rw [e]; rfl) (HB.out.fr ((Fr.refl w []).alloc _)) (Nat.le_trans HF.out (by simp)) hll ?_; intro v2 W2 hB2 hG2; have HB2 := AsM hB2; have HG2 := AsM ((Gr.of_fr ((Fr.refl w []).alloc _) v).trans hG2); clear hB2 hG2)))
  go_ret
  exact ⟨_, rfl, HB2.out, HG2.out⟩
 ·go_enter Tryz.func12, Tryz.ntmps12
  go_wp2
  obtain ⟨w1, h1⟩ : ∃ w1, w.alloc (.cells #[.bool true, .int .i64 x] 45) = w1 := ⟨_, rfl⟩
  have hk1 : w1.heap[w.heap.size]? = some (.cells #[.bool true, .int .i64 x] 45 (0, 0)) := h1 ▸ blk_newN rfl
  have HF1 : Aside0 (Fr w w1 []) := ⟨h1 ▸ (Fr.refl w []).alloc _⟩
  have HB1 := AsM (HB.out.fr HF1.out)
  have k1 := blk_cell hk1 1
  have HK1 := AsM hk1
  rw [h1]
  clear hk1 h1
  go_region_held3 (fun w' => w'.cell? ⟨w.heap.size, 1, none⟩ = some (.int .i64 x)) (first | exact q3 | exact q2 | (refine frc (L := []) k1 ?_ List.not_mem_nil; exact FQ) | go_keep) (first
   | (go_at_call 11; (with_reducible refine (CI.out _ _ (HB2.out.fr FQ) (Nat.le_trans HF.out HSZ2.out)).mono ?_); rintro e W3 ⟨v3, rfl, hB3, hG3⟩; have HB3 := AsM hB3; have hk3 := hG3.typ HB2.out HK2.out (by decide); have q3 := blk_cell hk3 1; have HG3 := AsM (HG2.out.trans hG3); clear hB3 hG3)
   | ((refine buf_app_step (mk := mk) (b0 := b0) (v := v) (l := l) (xs := [1]) (m := 1) (c := 1) (ad := ⟨w1.heap.size, 0, none⟩) ?hw (.tmp 11) (.tmp 12) ?ho ?hs ?hx rfl ?hb ?hf ?hc ?hl ?_); (case hw => rfl); (case ho => rfl); (case hs => rfl); (case hx => rfl); (case hb => exact HB1.out.fr FQ); (case hf => exact Nat.le_trans HF.out (Fr.size (L := []) (HF1.out.trans (M := []) FQ (by simp)))); (case hc => (with_reducible repeat (first | refine Kd.C_drewN ?_ _ | refine Kd.C_drew ?_)); exact one_C _ _); (case hl => (simp; omega)); intro v2 W2 hB2 hG2; (replace hG2 := (Gr.of_fr (a := w1) FQ v).trans hG2); (have HB2 := AsM hB2); (have hk2 := hG2.typ HB1.out HK1.out (by decide)); (have q2 := blk_cell hk2 1); (have HK2 := AsM hk2); (have HG2 := AsM ((Gr.of_fr HF1.out v).trans hG2)); (have HSZ2 := AsM HG2.out.size); (clear hB2 hG2 hk2))
   | fail)
  go_wp2
  go_ret
  exact ⟨_, rfl, by simpa [cellL] using HB3.out, HG3.out⟩
def secV (x : S50 × Option Addr × Nat) : List Value := [.int .i64 x.1.f0, .slice x.2.1 x.1.f1.length x.2.2]
theorem sec_cells : ∀ (xs : List (S50 × Option Addr × Nat)) (j : Nat) (p : S50 × Option Addr × Nat), xs[j]? = some p → (xs.flatMap secV)[j * 2]? = some (.int .i64 p.1.f0) ∧ (xs.flatMap secV)[j * 2 + 1]? = some (.slice p.2.1 p.1.f1.length p.2.2)
 | [], j, p, h => by simp at h
 | x :: xs, 0, p, h => by
  obtain rfl : x = p := by simpa using h
  exact ⟨rfl, rfl⟩
 | x :: xs, j + 1, p, h => by
  have ih := sec_cells xs j p (by simpa using h)
  have e1 : (j + 1) * 2 = j * 2 + 1 + 1 := by omega
  rw [List.flatMap_cons, e1]
  exact ih
theorem secs_C {w : World} {g : Nat} {fz : Nat × Nat} (xs : List (S50 × Option Addr × Nat)) (hx : ∀ x ∈ xs, Sl w x.2.1 x.2.2 x.1.f1) (hl : xs.length ≤ 64) (hb : w.heap[g]? = some (.cells (xs.flatMap secV).toArray 50 fz)) : Kd.C k50 w (some ⟨g, 0, none⟩) (xs.map (·.1)).length (xs.map (·.1)) := by
 refine ⟨rfl, by simp [maxLen]; omega, fun _ => ⟨_, rfl, fun j p hj => ?_⟩⟩
 rw [List.getElem?_map, Option.map_eq_some_iff] at hj
 obtain ⟨x, hx1, rfl⟩ := hj
 have hs := hx x (List.mem_of_getElem? hx1)
 obtain ⟨h0, h1⟩ := sec_cells xs j x hx1
 refine ⟨secV x, rfl, k50_mk w x.1 hs.1 hs.2, fun i u hu => ?_⟩
 show w.cell? ((⟨g, 0, none⟩ : Addr).add (j * 2 + i)) = some u
 rw [Addr.add_lit, Nat.zero_add]
 have hi : i = 0 ∨ i = 1 := by
  have := (List.getElem?_eq_some_iff.1 hu).1
  simp only [secV, List.length_cons, List.length_nil] at this
  omega
 have e : ∀ k, w.cell? ⟨g, k, none⟩ = (xs.flatMap secV)[k]? := fun k => by
  simp only [World.cell?, hb]
  simp
 rw [e]
 rcases hi with rfl | rfl
 ·exact h0.trans hu
 ·exact h1.trans hu
theorem fm_snoc {α β : Type} (f : α → List β) (z : α) (l : List α) (i : Nat) (hi : i < l.length) : (l.take (i + 1)).flatMap f = (l.take i).flatMap f ++ f (l.getD i z) := by
 rw [List.take_add_one, List.getElem?_eq_getElem hi, List.getD_eq_getElem?_getD, List.getElem?_eq_getElem hi, List.flatMap_append]
 simp
theorem fm_len {α β : Type} (f : α → List β) (m : Nat) : ∀ (l : List α), (∀ x ∈ l, (f x).length ≤ m) → (l.flatMap f).length ≤ l.length * m
 | [], _ => by simp
 | x :: l, h => by
  have h1 := fm_len f m l (fun y hy => h y (List.mem_cons_of_mem _ hy))
  have h2 := h x List.mem_cons_self
  rw [List.flatMap_cons, List.length_append, List.length_cons, Nat.add_mul]
  omega
theorem fm_byte {α : Type} (f : α → List Int) (l : List α) (h : ∀ x ∈ l, ∀ b ∈ f x, 0 ≤ b ∧ b < 256) : ∀ b ∈ l.flatMap f, 0 ≤ b ∧ b < 256 := fun b hb => by
 obtain ⟨x, hx, hb⟩ := List.mem_flatMap.1 hb
 exact h x hx b hb
abbrev Cel := S45
def zigL (x : Int) : List Int := uvar (zig x)
def celL (c : Cel) : List Int := cellL c.f0 c.f1
def rowL (r : List Cel) : List Int := r.flatMap celL
structure Stt where
 n0 : Nat
 n1 : Nat
 l2 : List Int
 l3 : List (List Cel)
 n4 : Nat
 n5 : Nat
def Stt.nums (s : Stt) : List Nat := [s.n0, s.n1, s.n4, s.n5]
def Stt.two (s : Stt) : List Int := s.nums.flatMap uvar
def Stt.three (s : Stt) : List Int := s.l2.flatMap zigL
def Stt.four (s : Stt) : List Int := s.l3.flatMap rowL
def Stt.secs (s : Stt) (m : List Int) : List S50 := [⟨1, m⟩, ⟨2, s.two⟩, ⟨3, s.three⟩, ⟨4, s.four⟩]
structure Stt.Ok (s : Stt) : Prop where
 h0 : s.n0 < 9223372036854775808
 h1 : s.n1 < 9223372036854775808
 h4 : s.n4 < 9223372036854775808
 h5 : s.n5 < 9223372036854775808
 l2 : s.l2.length ≤ 100000
 i2 : ∀ x ∈ s.l2, -9223372036854775808 ≤ x ∧ x < 9223372036854775808
 l3 : s.l3.length ≤ 100000
 r3 : ∀ r ∈ s.l3, r.length ≤ 100
 i3 : ∀ r ∈ s.l3, ∀ c ∈ r, -9223372036854775808 ≤ c.f1 ∧ c.f1 < 9223372036854775808
theorem zigL_len {x : Int} (h : -9223372036854775808 ≤ x ∧ x < 9223372036854775808) : (zigL x).length ≤ 11 := uvar_len64 (zig_lt h)
theorem zigL_byte {x : Int} (h : -9223372036854775808 ≤ x ∧ x < 9223372036854775808) : ∀ b ∈ zigL x, 0 ≤ b ∧ b < 256 := uvar_byte64 (zig_lt h)
theorem celL_len {c : Cel} (h : -9223372036854775808 ≤ c.f1 ∧ c.f1 < 9223372036854775808) : (celL c).length ≤ 12 := by
 have := zigL_len h
 unfold celL cellL
 unfold zigL at this
 split
 ·rw [List.length_cons]; omega
 ·simp
theorem celL_byte {c : Cel} (h : -9223372036854775808 ≤ c.f1 ∧ c.f1 < 9223372036854775808) : ∀ b ∈ celL c, 0 ≤ b ∧ b < 256 := by
 have h1 := zigL_byte h
 intro b hb
 unfold celL cellL at hb
 split at hb
 ·rcases List.mem_cons.1 hb with rfl | hb
  ·omega
  ·exact h1 b hb
 ·obtain rfl : b = 0 := by simpa using hb
  omega
theorem rowL_len {r : List Cel} (hr : r.length ≤ 100) (h : ∀ c ∈ r, -9223372036854775808 ≤ c.f1 ∧ c.f1 < 9223372036854775808) (i : Nat) : ((r.take i).flatMap celL).length ≤ 1200 := by
 have h1 := fm_len celL 12 (r.take i) (fun c hc => celL_len (h c (List.mem_of_mem_take hc)))
 have h2 : (r.take i).length ≤ 100 := by rw [List.length_take]; omega
 omega
theorem Stt.Ok.two_len {s : Stt} (h : s.Ok) (i : Nat) : ((s.nums.take i).flatMap uvar).length ≤ 44 := by
 have e0 := uvar_len64 (x := s.n0) (by have := h.h0; omega)
 have e1 := uvar_len64 (x := s.n1) (by have := h.h1; omega)
 have e2 := uvar_len64 (x := s.n4) (by have := h.h4; omega)
 have e3 := uvar_len64 (x := s.n5) (by have := h.h5; omega)
 unfold Stt.nums
 match i with
 | 0 => simp
 | 1 => simp; omega
 | 2 => simp; omega
 | 3 => simp; omega
 | k + 4 => simp; omega
theorem Stt.Ok.three_len {s : Stt} (h : s.Ok) (i : Nat) : ((s.l2.take i).flatMap zigL).length ≤ 1100000 := by
 have h1 := fm_len zigL 11 (s.l2.take i) (fun x hx => zigL_len (h.i2 x (List.mem_of_mem_take hx)))
 have h2 : (s.l2.take i).length ≤ 100000 := by have := h.l2; rw [List.length_take]; omega
 omega
theorem Stt.Ok.four_len {s : Stt} (h : s.Ok) (i : Nat) : ((s.l3.take i).flatMap rowL).length ≤ 120000000 := by
 have h1 := fm_len rowL 1200 (s.l3.take i) (fun r hr => by
  have hr := List.mem_of_mem_take hr
  have := rowL_len (h.r3 r hr) (h.i3 r hr) r.length
  rwa [List.take_of_length_le (Nat.le_refl _)] at this)
 have h2 : (s.l3.take i).length ≤ 100000 := by have := h.l3; rw [List.length_take]; omega
 omega
theorem Stt.secsOk {s : Stt} (h : s.Ok) {m : List Int} (hm : m.length = 4) (hb : ∀ b ∈ m, 0 ≤ b ∧ b < 256) : Secs (s.secs m) := by
 have e2 : s.two.length ≤ 44 := h.two_len 4
 have e3 := h.three_len s.l2.length
 have e4 := h.four_len s.l3.length
 rw [List.take_of_length_le (Nat.le_refl _)] at e3 e4
 refine ⟨by simp [Stt.secs], fun i hi => ?_, fun x hx => ?_, fun x hx => ?_⟩
 ·have hi : i < 4 := by simpa [Stt.secs] using hi
  have : i = 0 ∨ i = 1 ∨ i = 2 ∨ i = 3 := by omega
  rcases this with rfl | rfl | rfl | rfl <;> rfl
 ·simp only [Stt.secs, List.mem_cons, List.not_mem_nil, or_false] at hx
  rcases hx with rfl | rfl | rfl | rfl
  ·exact hb
  ·refine fm_byte _ _ (fun x hx => uvar_byte64 ?_)
   have := h.h0
   have := h.h1
   have := h.h4
   have := h.h5
   simp only [Stt.nums, List.mem_cons, List.not_mem_nil, or_false] at hx
   omega
  ·exact fm_byte _ _ (fun x hx => zigL_byte (h.i2 x hx))
  ·exact fm_byte _ _ (fun r hr => fm_byte _ _ (fun c hc => celL_byte (h.i3 r hr c hc)))
 ·simp only [Stt.secs, List.mem_cons, List.not_mem_nil, or_false] at hx
  rcases hx with rfl | rfl | rfl | rfl
  ·show m.length ≤ _
   omega
  ·show s.two.length ≤ _
   omega
  ·show (s.l2.flatMap zigL).length ≤ _
   omega
  ·show (s.l3.flatMap rowL).length ≤ _
   omega
theorem mark_byte (p : Prg) : ∀ b ∈ p.mark, 0 ≤ b ∧ b < 256 := by
 have hc := cval_lt (crcL (sealB (sB ⟨#[80, 65, 89, 79, 70, 70, 49, 10]⟩) p.secs))
 intro b hb
 unfold Prg.mark sum4 at hb
 simp only [List.mem_cons, List.not_mem_nil, or_false] at hb
 omega
def ClonePost {α : Type} (d : Kd α) (xs : List α) (w : World) (e : Ending) (w' : World) : Prop :=
 ∃ A c, e = .returned (.slice A xs.length c) ∧ xs.length ≤ c ∧ d.C w' A xs.length xs ∧ Fr w w' []
theorem empty_R {α : Type} (d : Kd α) (e : Nat) (w : World) : d.R e (w.alloc (.cells #[] e)) w.heap.size (fun _ => True) (.slice (some ⟨w.heap.size, 0, none⟩) 0 0) [] :=
 ⟨fun _ _ => trivial, [], ⟨by simp, .inr ⟨w.heap.size, 0, #[], rfl, Nat.le_refl _, blk_newN rfl, Nat.le_refl _, by simp [maxLen], by simp, by simp⟩⟩, Reps.none _ _⟩
theorem cloneS_calls (A : Option Addr) (c : Nat) (xs : List ByteArray) (w : World) (hr : Kd.C Kd.string w A xs.length xs) (hc : xs.length ≤ c) (hl : xs.length ≤ 1000000000000) :
  Calls Tryz.prog 47 #[.slice A xs.length c] w (ClonePost Kd.string xs w) := by
 have qnil : ∀ (w : World) (a : Option Addr) (n c n' c' : Nat), (binOp .eql 22 (.slice a n c) (.slice none n' c')).run Tryz.prog w = .ok (.bool a.isNone) w := fun w a n c n' c' => Lib.run_eql_slice_nil w _ _ a n c n' c' Tryz.underlying22
 have HR := AsM hr
 clear hr
 have hA : A = none ∨ ∃ ad, A = some ad := by cases A <;> simp
 rcases hA with rfl | ⟨ad, rfl⟩
 ·go_enter Tryz.func47, Tryz.ntmps47
  go_wp2
  refine bodyPost_ret (results_tmp rfl _ _ _) rfl ?_
  cases xs with
  | nil => exact ⟨none, 0, rfl, Nat.le_refl _, HR.out, Fr.refl _ _⟩
  | cons x xs =>
   obtain ⟨ad, h, _⟩ := HR.out.2.2 (by simp)
   cases h
 ·go_enter Tryz.func47, Tryz.ntmps47
  go_wp2_with (first | (at_builtin; (refine Kd.R_append_rows Kd.string (w0 := w) w.heap.size rfl (.tmp 5) (.tmp 6) 22 9 (.string ⟨#[]⟩) 16 rfl Tryz.underlying22 info9 rfl (by decide) (by decide) _ [] xs (some ad) xs.length c (fun _ => True) (fun _ => False) rfl rfl (empty_R _ _ w) (Kd.C_alloc HR.out _) (fun _ _ h => h) (fun _ h => h.elim) (fun _ _ => trivial) (below_alloc (Below.refl _ _) _) (by simp) (by simp; omega) ?_); intro v1 w1 ho hb hg hat; have HO := AsM ho; have HF := AsM (Fr.grown (L := []) (Fr.alloc (Fr.refl w []) _) hg (fun k hk => .inr (by injection hk with hk; simp at hk; omega))); clear ho hb hg hat))
  obtain ⟨A1, c1, rfl, h1, h2⟩ := Kd.R_reads HO.out
  refine bodyPost_ret (results_tmp rfl _ _ _) rfl ?_
  exact ⟨A1, c1, rfl, by simpa using h1, by simpa using h2, HF.out⟩
theorem cloneI_calls (A : Option Addr) (c : Nat) (xs : List Int) (w : World) (hr : Kd.C (Kd.int .i64) w A xs.length xs) (hc : xs.length ≤ c) (hl : xs.length ≤ 1000000000000) :
  Calls Tryz.prog 48 #[.slice A xs.length c] w (ClonePost (Kd.int .i64) xs w) := by
 have qnil : ∀ (w : World) (a : Option Addr) (n c n' c' : Nat), (binOp .eql 23 (.slice a n c) (.slice none n' c')).run Tryz.prog w = .ok (.bool a.isNone) w := fun w a n c n' c' => Lib.run_eql_slice_nil w _ _ a n c n' c' Tryz.underlying23
 have HR := AsM hr
 clear hr
 have hA : A = none ∨ ∃ ad, A = some ad := by cases A <;> simp
 rcases hA with rfl | ⟨ad, rfl⟩
 ·go_enter Tryz.func48, Tryz.ntmps48
  go_wp2
  refine bodyPost_ret (results_tmp rfl _ _ _) rfl ?_
  cases xs with
  | nil => exact ⟨none, 0, rfl, Nat.le_refl _, HR.out, Fr.refl _ _⟩
  | cons x xs =>
   obtain ⟨ad, h, _⟩ := HR.out.2.2 (by simp)
   cases h
 ·go_enter Tryz.func48, Tryz.ntmps48
  go_wp2_with (first | (at_builtin; (refine Kd.R_append_rows (Kd.int .i64) (w0 := w) w.heap.size rfl (.tmp 5) (.tmp 6) 23 3 (.int .i64 0) 8 rfl Tryz.underlying23 info3 rfl (by decide) (by decide) _ [] xs (some ad) xs.length c (fun _ => True) (fun _ => False) rfl rfl (empty_R _ _ w) (Kd.C_alloc HR.out _) (fun _ _ h => h) (fun _ h => h.elim) (fun _ _ => trivial) (below_alloc (Below.refl _ _) _) (by simp) (by simp; omega) ?_); intro v1 w1 ho hb hg hat; have HO := AsM ho; have HF := AsM (Fr.grown (L := []) (Fr.alloc (Fr.refl w []) _) hg (fun k hk => .inr (by injection hk with hk; simp at hk; omega))); clear ho hb hg hat))
  obtain ⟨A1, c1, rfl, h1, h2⟩ := Kd.R_reads HO.out
  refine bodyPost_ret (results_tmp rfl _ _ _) rfl ?_
  exact ⟨A1, c1, rfl, by simpa using h1, by simpa using h2, HF.out⟩
theorem cloneN_calls (A : Option Addr) (c : Nat) (xs : List S113) (w : World) (hr : Kd.C k113 w A xs.length xs) (hc : xs.length ≤ c) (hl : xs.length ≤ 1000000000000) :
  Calls Tryz.prog 49 #[.slice A xs.length c] w (ClonePost k113 xs w) := by
 have qnil : ∀ (w : World) (a : Option Addr) (n c n' c' : Nat), (binOp .eql 52 (.slice a n c) (.slice none n' c')).run Tryz.prog w = .ok (.bool a.isNone) w := fun w a n c n' c' => Lib.run_eql_slice_nil w _ _ a n c n' c' Tryz.underlying52
 have HR := AsM hr
 clear hr
 have hA : A = none ∨ ∃ ad, A = some ad := by cases A <;> simp
 rcases hA with rfl | ⟨ad, rfl⟩
 ·go_enter Tryz.func49, Tryz.ntmps49
  go_wp2
  refine bodyPost_ret (results_tmp rfl _ _ _) rfl ?_
  cases xs with
  | nil => exact ⟨none, 0, rfl, Nat.le_refl _, HR.out, Fr.refl _ _⟩
  | cons x xs =>
   obtain ⟨ad, h, _⟩ := HR.out.2.2 (by simp)
   cases h
 ·go_enter Tryz.func49, Tryz.ntmps49
  go_wp2_with (first | (at_builtin; (refine Kd.R_append_rows k113 (w0 := w) w.heap.size rfl (.tmp 5) (.tmp 6) 52 113 (.agg #[.int .i64 0, .int .i64 0, .int .i64 0]) 24 rfl Tryz.underlying52 info113 rfl (by decide) (by decide) _ [] xs (some ad) xs.length c (fun _ => True) (fun _ => False) rfl rfl (empty_R _ _ w) (Kd.C_alloc HR.out _) (fun _ _ h => h) (fun _ h => h.elim) (fun _ _ => trivial) (below_alloc (Below.refl _ _) _) (by simp) (by simp; omega) ?_); intro v1 w1 ho hb hg hat; have HO := AsM ho; have HF := AsM (Fr.grown (L := []) (Fr.alloc (Fr.refl w []) _) hg (fun k hk => .inr (by injection hk with hk; simp at hk; omega))); clear ho hb hg hat))
  obtain ⟨A1, c1, rfl, h1, h2⟩ := Kd.R_reads HO.out
  refine bodyPost_ret (results_tmp rfl _ _ _) rfl ?_
  exact ⟨A1, c1, rfl, by simpa using h1, by simpa using h2, HF.out⟩
theorem cloneC_calls (A : Option Addr) (c : Nat) (xs : List S45) (w : World) (hr : Kd.C k45 w A xs.length xs) (hc : xs.length ≤ c) (hl : xs.length ≤ 1000000000000) :
  Calls Tryz.prog 54 #[.slice A xs.length c] w (ClonePost k45 xs w) := by
 have qnil : ∀ (w : World) (a : Option Addr) (n c n' c' : Nat), (binOp .eql 39 (.slice a n c) (.slice none n' c')).run Tryz.prog w = .ok (.bool a.isNone) w := fun w a n c n' c' => Lib.run_eql_slice_nil w _ _ a n c n' c' Tryz.underlying39
 have HR := AsM hr
 clear hr
 have hA : A = none ∨ ∃ ad, A = some ad := by cases A <;> simp
 rcases hA with rfl | ⟨ad, rfl⟩
 ·go_enter Tryz.func54, Tryz.ntmps54
  go_wp2
  refine bodyPost_ret (results_tmp rfl _ _ _) rfl ?_
  cases xs with
  | nil => exact ⟨none, 0, rfl, Nat.le_refl _, HR.out, Fr.refl _ _⟩
  | cons x xs =>
   obtain ⟨ad, h, _⟩ := HR.out.2.2 (by simp)
   cases h
 ·go_enter Tryz.func54, Tryz.ntmps54
  go_wp2_with (first | (at_builtin; (refine Kd.R_append_rows k45 (w0 := w) w.heap.size rfl (.tmp 5) (.tmp 6) 39 45 (.agg #[.bool false, .int .i64 0]) 16 rfl Tryz.underlying39 info45 rfl (by decide) (by decide) _ [] xs (some ad) xs.length c (fun _ => True) (fun _ => False) rfl rfl (empty_R _ _ w) (Kd.C_alloc HR.out _) (fun _ _ h => h) (fun _ h => h.elim) (fun _ _ => trivial) (below_alloc (Below.refl _ _) _) (by simp) (by simp; omega) ?_); intro v1 w1 ho hb hg hat; have HO := AsM ho; have HF := AsM (Fr.grown (L := []) (Fr.alloc (Fr.refl w []) _) hg (fun k hk => .inr (by injection hk with hk; simp at hk; omega))); clear ho hb hg hat))
  obtain ⟨A1, c1, rfl, h1, h2⟩ := Kd.R_reads HO.out
  refine bodyPost_ret (results_tmp rfl _ _ _) rfl ?_
  exact ⟨A1, c1, rfl, by simpa using h1, by simpa using h2, HF.out⟩
theorem iat_at {w : World} {A : Option Addr} {n : Nat} {xs : List Int} (h : Kd.C (Kd.int .i64) w A n xs) (k : Nat) (hk : k < n) : ∃ ad, A = some ad ∧ w.cell? (ad.add k) = some (.int .i64 (xs.getD k 0)) := by
 obtain ⟨ad, e, hc⟩ := ReadsOf.at_ (enc := Value.int .i64) (d := 0) (Kd.reads_of_C h) (k : Int) (by omega) (by omega)
 exact ⟨ad, e, by simpa [rdOf] using hc⟩
theorem may1_calls (x : Int) (w : World) : Calls Tryz.prog 51 #[.int .i64 x] w fun e w' => e = .returned (.bool (!(decide (x = 0)))) ∧ Drawn0 w w' := by
 have hx : (x != 0) = !(decide (x = 0)) := by by_cases h : x = 0 <;> simp [h]
 go_enter Tryz.func51, Tryz.ntmps51
 go_wp2
 go_ret
 exact ⟨by simp [hx], DQ⟩
theorem indexI_calls (A : Option Addr) (c : Nat) (l : List Int) (w : World) (hC : Kd.C (Kd.int .i64) w A l.length l) (hc : l.length ≤ c) :
  Calls Tryz.prog 78 #[.slice A l.length c, .func (Fn.func 51) #[] #[]] w fun e w' => (∃ i : Int, e = .returned (.int .i64 i) ∧ (0 ≤ i ↔ l.any (fun s => !(decide (s = 0))) = true)) ∧ Drawn0 w w' := by
 have HC := AsM hC
 have hl63 := Kd.C_max hC
 have HF := AsM (show ∀ s b, (!(decide (s = 0))) = b → ∀ w, Calls Tryz.prog 51 #[.int .i64 s] w fun e w' => e = .returned (.bool b) ∧ Drawn0 w w' from fun s b h w => h ▸ may1_calls s w)
 clear hC
 go_enter Tryz.func78, Tryz.ntmps78
 go_wp2
 go_loopg [8] l.length (fun kq x wr => ∃ k : Nat, x = .int .i64 k ∧ k ≤ l.length ∧ Aside0 (l.length - k ≤ kq) ∧ Drawn0 w wr ∧ Aside0 ((l.take k).any (fun s => !(decide (s = 0))) = false))
 case atStart => exact ⟨0, rfl, Nat.zero_le _, ⟨Nat.le_refl _⟩, DQ, ⟨rfl⟩⟩
 case round =>
  obtain ⟨k, rfl, hk, HM, ⟨nk, rfl⟩, HA⟩ := hrel
  by_cases hkl : k < l.length
  ·have n3 : decide (k < l.length) = true := by simpa using hkl
   have p0 : (0 : Int) ≤ (k : Int) := by omega
   have p1 : (k : Int) < l.length := by omega
   obtain ⟨ad, rfl, h1⟩ := iat_at HC.out k hkl
   obtain ⟨x, hx⟩ : ∃ x, l.getD k 0 = x := ⟨_, rfl⟩
   rw [hx] at h1
   have hxm : l[k]? = some x := by rw [List.getD_eq_getElem?_getD, List.getElem?_eq_getElem hkl] at hx; rw [List.getElem?_eq_getElem hkl]; simpa using hx
   have HX := AsM hxm
   clear hx hxm
   cases hb : (!(decide (x = 0)))
   ·have HB := AsM hb
    clear hb
    go_wp2_with (first | (go_at_call 51; (refine (HF.out x false HB.out _).mono ?_); rintro e w' ⟨rfl, ⟨nd, rfl⟩⟩))
    go_roundg (l.length - (k + 1))
    case measure => have := HM.out; omega
    case rel =>
     refine ⟨k + 1, by go_num, by omega, ⟨Nat.le_refl _⟩, DQ, ⟨?_⟩⟩
     rw [List.take_add_one, List.any_append, HA.out, HX.out]
     simp [HB.out]
   ·have HB := AsM hb
    clear hb
    go_wp2_with (first | (go_at_call 51; (refine (HF.out x true HB.out _).mono ?_); rintro e w' ⟨rfl, ⟨nd, rfl⟩⟩))
    go_ret
    exact ⟨⟨k, rfl, iff_of_true p0 (List.any_eq_true.2 ⟨x, List.mem_of_getElem? HX.out, HB.out⟩)⟩, DQ⟩
  ·obtain rfl : k = l.length := by omega
   have n3 : decide (l.length < l.length) = false := by simp
   have ha := HA.out
   rw [List.take_length] at ha
   have HA2 := AsM ha
   clear ha HA
   go_wp2
   go_ret
   exact ⟨⟨-1, rfl, iff_of_false (by decide) (by rw [HA2.out]; decide)⟩, DQ⟩
theorem containsI_calls (A : Option Addr) (c : Nat) (l : List Int) (w : World) (hC : Kd.C (Kd.int .i64) w A l.length l) (hc : l.length ≤ c) (b : Bool) (hb : l.any (fun s => !(decide (s = 0))) = b) :
  Calls Tryz.prog 50 #[.slice A l.length c, .func (Fn.func 51) #[] #[]] w fun e w' => e = .returned (.bool b) ∧ Drawn0 w w' := by
 have HI := AsM (indexI_calls A c l w hC hc)
 have HB := AsM hb
 clear hC hb
 go_enter Tryz.func50, Tryz.ntmps50
 go_wp2_with (first | (go_at_call 78; (refine (HI.out).mono ?_); rintro e w' ⟨⟨i, rfl, hi⟩, ⟨nd, rfl⟩⟩; have HIF := AsM hi; clear hi))
 go_ret
 refine ⟨?_, DQ⟩
 have h1 := HIF.out
 rw [HB.out] at h1
 cases b
 ·have h2 : decide (0 ≤ i) = false := by simpa using h1
  simp [h2]
 ·have h2 : decide (0 ≤ i) = true := by simpa using h1
  simp [h2]
theorem cell_at {w : World} {A : Option Addr} {n : Nat} {xs : List S45} (h : Kd.C k45 w A n xs) (k : Nat) (hk : k < n) : ∃ ad, A = some ad ∧ w.cell? (ad.add (k * 2)) = some (.bool (xs.getD k z45).f0) ∧ w.cell? ⟨(ad.add (k * 2)).block, (ad.add (k * 2)).off + 1, none⟩ = some (.int .i64 (xs.getD k z45).f1) := by
 obtain ⟨ad, e, h0, h1⟩ := at_T45 h (k : Int) (by omega) (by omega)
 simp only [rd_T45, Int.toNat_natCast] at h0 h1
 exact ⟨ad, e, h0, h1⟩
def cellBad (x : S45) : Bool := !x.f0 && !(decide (x.f1 = 0))
theorem may2_calls (x : S45) (w : World) : Calls Tryz.prog 53 #[.agg #[.bool x.f0, .int .i64 x.f1]] w fun e w' => e = .returned (.bool (cellBad x)) ∧ Fr w w' [] := by
 obtain ⟨b, v⟩ := x
 have hx : (v != 0) = !(decide (v = 0)) := by by_cases h : v = 0 <;> simp [h]
 have hup := Tryz.underlying45
 cases b
 all_goals (
  go_enter Tryz.func53, Tryz.ntmps53
  go_wp2
  go_ret
  exact ⟨by simp [cellBad, hx], FQ⟩)
theorem indexC_calls (A : Option Addr) (c : Nat) (l : List S45) (w : World) (hC : Kd.C k45 w A l.length l) (hc : l.length ≤ c) :
  Calls Tryz.prog 79 #[.slice A l.length c, .func (Fn.func 53) #[] #[]] w fun e w' => (∃ i : Int, e = .returned (.int .i64 i) ∧ (0 ≤ i ↔ l.any (fun s => cellBad s) = true)) ∧ Fr w w' [] := by
 have HC := AsM hC
 have hl63 := Kd.C_max hC
 have HF := AsM (show ∀ s b, (cellBad s) = b → ∀ w, Calls Tryz.prog 53 #[.agg #[.bool s.f0, .int .i64 s.f1]] w fun e w' => e = .returned (.bool b) ∧ Fr w w' [] from fun s b h w => h ▸ may2_calls s w)
 clear hC
 go_enter Tryz.func79, Tryz.ntmps79
 go_wp2
 go_loopg [8] l.length (fun kq x wr => ∃ k : Nat, x = .int .i64 k ∧ k ≤ l.length ∧ Aside0 (l.length - k ≤ kq) ∧ Aside0 (Fr w wr []) ∧ Aside0 ((l.take k).any (fun s => cellBad s) = false))
 case atStart => exact ⟨0, rfl, Nat.zero_le _, ⟨Nat.le_refl _⟩, ⟨FQ⟩, ⟨rfl⟩⟩
 case round =>
  obtain ⟨k, rfl, hk, HM, HFW, HA⟩ := hrel
  by_cases hkl : k < l.length
  ·have n3 : decide (k < l.length) = true := by simpa using hkl
   have p0 : (0 : Int) ≤ (k : Int) := by omega
   have p1 : (k : Int) < l.length := by omega
   obtain ⟨ad, rfl, h1, h2⟩ := cell_at (Kd.C_below HC.out HFW.out.below) k hkl
   obtain ⟨x, hx⟩ : ∃ x, l.getD k z45 = x := ⟨_, rfl⟩
   rw [hx] at h1 h2
   have hxm : l[k]? = some x := by rw [List.getD_eq_getElem?_getD, List.getElem?_eq_getElem hkl] at hx; rw [List.getElem?_eq_getElem hkl]; simpa using hx
   have HX := AsM hxm
   clear hx hxm
   cases hb : (cellBad x)
   ·have HB := AsM hb
    clear hb
    go_wp2_with (first | (go_at_call 53; (refine (HF.out x false HB.out _).mono ?_); rintro e w' ⟨rfl, hF9⟩; have HF9 := AsM (Fr.trans (M := []) HFW.out (Fr.trans (M := []) FQ hF9 (by simp)) (by simp)); clear hF9))
    go_roundg (l.length - (k + 1))
    case measure => have := HM.out; omega
    case rel =>
     refine ⟨k + 1, by go_num, by omega, ⟨Nat.le_refl _⟩, ⟨FX HF9.out⟩, ⟨?_⟩⟩
     rw [List.take_add_one, List.any_append, HA.out, HX.out]
     simp [HB.out]
   ·have HB := AsM hb
    clear hb
    go_wp2_with (first | (go_at_call 53; (refine (HF.out x true HB.out _).mono ?_); rintro e w' ⟨rfl, hF9⟩; have HF9 := AsM (Fr.trans (M := []) HFW.out (Fr.trans (M := []) FQ hF9 (by simp)) (by simp)); clear hF9))
    go_ret
    exact ⟨⟨k, rfl, iff_of_true p0 (List.any_eq_true.2 ⟨x, List.mem_of_getElem? HX.out, HB.out⟩)⟩, FX HF9.out⟩
  ·obtain rfl : k = l.length := by omega
   have n3 : decide (l.length < l.length) = false := by simp
   have ha := HA.out
   rw [List.take_length] at ha
   have HA2 := AsM ha
   clear ha HA
   go_wp2
   go_ret
   exact ⟨⟨-1, rfl, iff_of_false (by decide) (by rw [HA2.out]; decide)⟩, FX HFW.out⟩
theorem containsC_calls (A : Option Addr) (c : Nat) (l : List S45) (w : World) (hC : Kd.C k45 w A l.length l) (hc : l.length ≤ c) (b : Bool) (hb : l.any (fun s => cellBad s) = b) :
  Calls Tryz.prog 52 #[.slice A l.length c, .func (Fn.func 53) #[] #[]] w fun e w' => e = .returned (.bool b) ∧ Fr w w' [] := by
 have HI := AsM (indexC_calls A c l w hC hc)
 have HB := AsM hb
 clear hC hb
 go_enter Tryz.func52, Tryz.ntmps52
 go_wp2_with (first | (go_at_call 79; (refine (HI.out).mono ?_); rintro e w' ⟨⟨i, rfl, hi⟩, hF9⟩; have HF9 := AsM hF9; clear hF9; have HIF := AsM hi; clear hi))
 go_ret
 refine ⟨?_, FX HF9.out⟩
 have h1 := HIF.out
 rw [HB.out] at h1
 cases b
 ·have h2 : decide (0 ≤ i) = false := by simpa using h1
  simp [h2]
 ·have h2 : decide (0 ≤ i) = true := by simpa using h1
  simp [h2]
end Go.Proofs.YtpoehkacfmljcaaGreatDoor.H
