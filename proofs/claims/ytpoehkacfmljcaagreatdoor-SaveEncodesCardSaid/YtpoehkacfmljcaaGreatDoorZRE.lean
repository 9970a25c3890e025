/- The reference's behind. Printed by mkRE.py. -/
import Derived.Test.YtpoehkacfmljcaaGreatDoorZV
import Derived.Test.YtpoehkacfmljcaaGreatDoorZRB
set_option maxHeartbeats 4000000
set_option maxRecDepth 100000
namespace Go.Proofs.YtpoehkacfmljcaaGreatDoor.H
open Go.RowKit Go.Proofs.YtpoehkacfmljcaaGreatDoorW.PrintWords Go.Proofs.YtpoehkacfmljcaaGreatDoorW.PrintLast Go.Proofs.YtpoehkacfmljcaaGreatDoorW.PrintMore
open Go.ChangeMaps (setBlock)
attribute [local go_sem] max2_int min2_int max_two min_two max_three min_three max_four min_four
set_option linter.unusedVariables false
set_option linter.unusedSimpArgs false
open Go.Proofs.YtpoehkacfmljcaaGreatDoor.M
theorem slice_to (A : Option Addr) (n c h : Nat) (hc : h ≤ c) (w : World) : (Instr.slice 23 (.slice A n c) none (some (.int .i64 h)) none).run Tryz.prog w = .ok (.slice A h c) w := by
 have hu := Tryz.underlying23
 have hs : (sizeOf 3).run Tryz.prog w = .ok 1 w := by kernel_rfl
 rw [run_slice_h (P := Tryz.prog) w 23 A n c (by rw [hu]; rfl) .i64 (h : Int) (by omega) (by omega)]
 rw [show Tryz.prog.elem 23 = 3 from rfl, hs]
 simp only [Result.andThen, sliced, Int.toNat_natCast, Nat.sub_zero, Nat.zero_mul]
 cases A with
 | none => simp
 | some a => simp [Addr.add]
def Iv (w : World) (v : Value) (xs : List Int) : Prop := w.ownsRow 0 3 1 v xs.length (xs.map (Value.int .i64))
theorem Iv.nil (w : World) : Iv w (.slice none 0 0) [] := own_nil _ _ _ _
theorem Iv.fr {w w' : World} {v : Value} {xs : List Int} {L : List Nat} (h : Iv w v xs) (hf : Fr w w' L) (hn : ∀ k, v.ownBlock = some k → k ∉ L) : Iv w' v xs := own_fr h hf hn
theorem reps_ints_on (w : World) : ∀ (xs ys : List Int), Reps ((Kd.int .i64).K w) 1 ys (ys.map (Value.int .i64)) → Reps ((Kd.int .i64).K w) 1 (ys ++ xs) ((ys ++ xs).map (Value.int .i64))
 | [], ys, h => by simpa using h
 | x :: xs, ys, h => by
  have h1 : Reps ((Kd.int .i64).K w) 1 (ys ++ [x]) ((ys ++ [x]).map (Value.int .i64)) := by rw [List.map_append]; exact h.snoc rfl rfl
  simpa using reps_ints_on w xs (ys ++ [x]) h1
theorem reps_ints (w : World) (xs : List Int) : Reps ((Kd.int .i64).K w) 1 xs (xs.map (Value.int .i64)) := reps_ints_on w xs [] (Reps.none _ _)
theorem Iv.C {w : World} {v : Value} {xs : List Int} (h : Iv w v xs) : ∃ A c, v = .slice A xs.length c ∧ xs.length ≤ c ∧ (Kd.int .i64).C w A xs.length xs := C_of_own (d := Kd.int .i64) h (reps_ints w xs) rfl
theorem run_appI (W : World) (v : Value) (xs ys : List Int) (ty : TypeId) (A : Option Addr) (m c : Nat) (HO : Iv W v xs) (HR : (Kd.int .i64).C W A m ys) (hl : xs.length + m ≤ 10000000000) :
  ∃ v1 w1, (Builtin.append_ #[23, 23] ty #[v, .slice A m c]).run Tryz.prog W = .ok v1 w1 ∧ Iv w1 v1 (xs ++ ys) ∧ W.grownBy w1 v.ownBlock ∧ (v1.ownBlock = v.ownBlock ∨ v1.ownBlock = some W.heap.size) := by
 obtain ⟨i0, hi, hz0, hz1, hz2⟩ := info_parts info3
 have hm : ys.length = m := HR.1
 have ht := Tryz.underlying23
 rcases A with _ | ad
 ·have h0 : m = 0 := by
   rcases Nat.eq_zero_or_pos m with h0 | h0
   ·exact h0
   ·obtain ⟨ad, h, _⟩ := HR.2.2 h0
    cases h
  subst h0
  obtain rfl : ys = [] := List.eq_nil_of_length_eq_zero hm
  refine ⟨v, W, ?_, by simpa using HO, World.grownBy.refl W _, .inl rfl⟩
  rcases HO.2 with ⟨rfl, hn⟩ | ⟨g, cap, cur, rfl, _, _, hnc, _⟩
  ·simp [Builtin.append_, run_underlying ht, sizeOf, typeInfo, hi, Builtin.lenOf, Builtin.firstCells]
  ·simp [Builtin.append_, run_underlying ht, sizeOf, typeInfo, hi, Builtin.lenOf, Builtin.firstCells, hnc, storeCells]
 ·have hcells : ∀ j u, (ys.map (Value.int .i64))[j]? = some u → W.cell? (ad.add j) = some u := by
   intro j u hu
   simp only [List.getElem?_map, Option.map_eq_some_iff] at hu
   obtain ⟨y, hy, rfl⟩ := hu
   have hj := (List.getElem?_eq_some_iff.1 hy).1
   obtain ⟨ad', h', hc⟩ := HR.2.2 (by omega)
   injection h' with h'
   subst h'
   obtain ⟨cs, _, hk, hcc⟩ := hc j y hy
   have : cs = [.int .i64 y] := hk
   subst this
   have := hcc 0 _ rfl
   rw [show (Kd.int .i64).sz = 1 from rfl, Nat.mul_one, Nat.add_zero] at this
   exact this
  obtain ⟨v1, w1, hr, h2, h3, _, h5⟩ := run_append_own_at (P := Tryz.prog) W 0 23 ty 3 i0 _ 1 8 ht hi hz0 hz1 hz2 rfl (by omega) v xs.length (xs.map (Value.int .i64)) HO ad m c (ys.map (Value.int .i64)) (by simp [hm]) hcells
   (by intro u hu; simp only [List.mem_map] at hu; obtain ⟨q, _, rfl⟩ := hu; rfl) (by simp only [maxLen]; omega) (by omega) (Nat.zero_le _)
  exact ⟨v1, w1, hr, by simpa [Iv, hm] using h2, h3, h5⟩
def behindX (op : Int) (xs : List Int) (sl : List KS) (A : Int) : List Int :=
 xs.take (xs.length - (takesL op).length) ++ if op = 6 then [xs.getD (xs.length - (takesL op).length) 0] else if op = 7 then [slotL sl A] else if op = 2 ∨ op = 25 then [2] else if 0 < kP op then [if 19 ≤ op ∧ op ≤ 24 then 2 else 1] else []
def behindS (op : Int) (xs : List Int) (sl : List KS) (A : Int) : List KS := if op = 6 then withoutL sl A ++ [⟨A, xs.getD (xs.length - (takesL op).length) 0⟩] else sl
theorem C_take {w : World} {A : Option Addr} {n h : Nat} {xs : List Int} (hC : (Kd.int .i64).C w A n xs) (hh : h ≤ n) : (Kd.int .i64).C w A h (xs.take h) :=
 ⟨by rw [List.length_take]; have := hC.1; omega, by have := hC.2.1; omega, fun hp => by
  obtain ⟨ad, e, hc⟩ := hC.2.2 (by omega)
  refine ⟨ad, e, fun j p hj => hc j p ?_⟩
  rw [List.getElem?_take] at hj
  split at hj
  ·exact hj
  ·cases hj⟩
def BehPost (ys : List Int) (ks : List KS) (SB : Option Addr) (w : World) (e : Ending) (w' : World) : Prop :=
 ∃ A c B d, e = .returned (.agg #[.bool true, .slice A ys.length c, .slice B ks.length d]) ∧ ys.length ≤ c ∧ (Kd.int .i64).C w' A ys.length ys ∧ Kd.C k236 w' B ks.length ks ∧ (∀ ad, A = some ad → w.heap.size ≤ ad.block) ∧ (B = SB ∨ ∀ ad, B = some ad → w.heap.size ≤ ad.block) ∧ Fr w w' []
def BehMid (YS : List Int) (ks : List KS) (SB : Option Addr) (D : Nat) (w : World) (W : World) : Prop :=
 ∃ A m c B n d, Fr w W [] ∧ W.heap[D]? = some (.cells #[.bool true, .slice A m c, .slice B n d] 175 (0, 0)) ∧ Iv W (.slice A m c) YS ∧ (∀ i, (Value.slice A m c).ownBlock = some i → D < i) ∧ n = ks.length ∧ Kd.C k236 W B ks.length ks ∧ ((B = SB ∧ Kd.C k236 w SB ks.length ks) ∨ ∀ ad, B = some ad → D < ad.block) ∧ W.heap[w.heap.size + 1 + 1]? = some (.cells #[.bool false, .slice none 0 0, .slice none 0 0] 175 (0, 0))
theorem Iv.snoc {w : World} {v : Value} {xs : List Int} {x : Int} (h : w.ownsRow 0 3 1 v (xs.length + 1) (xs.map (Value.int .i64) ++ [.int .i64 x])) : Iv w v (xs ++ [x]) := by
 unfold Iv
 rw [List.length_append, List.map_append]
 exact h
theorem C_fr {α : Type} {d : Kd α} {w w' : World} {A : Option Addr} {n : Nat} {xs : List α} {L : List Nat} (h : d.C w A n xs) (hf : Fr w w' L) (hA : ∀ ad, A = some ad → ad.block ∉ L) (hK : ∀ x c, d.K w x c → d.K w' x c) : d.C w' A n xs :=
 ⟨h.1, h.2.1, fun hp => by
  obtain ⟨ad, e, hc⟩ := h.2.2 hp
  refine ⟨ad, e, fun j p hj => ?_⟩
  obtain ⟨c, h1, h2, h3⟩ := hc j p hj
  refine ⟨c, h1, hK _ _ h2, fun i u hu => ?_⟩
  have := h3 i u hu
  have hbl : (ad.add (j * d.sz + i)).block = ad.block := by simp only [Addr.add]; split <;> rfl
  simp only [World.cell?] at this ⊢
  rw [hbl] at this ⊢
  by_cases hb : ad.block < w.heap.size
  ·rw [hf.block _ hb (hA ad e)]
   exact this
  ·rw [Array.getElem?_eq_none (by omega)] at this
   simp at this⟩
theorem K_kept {w w' : World} (x : KS) (c : List Value) (h : k236.K w x c) : k236.K w' x c := by
 rw [k236_open h]
 exact k236_mk w' x
theorem beh_end {YS : List Int} {ks : List KS} {SB : Option Addr} {w W : World} {P B : Option Addr} {m c d : Nat} (hF : Fr w W []) (hI : Iv W (.slice P m c) YS) (hP : ∀ i, (Value.slice P m c).ownBlock = some i → w.heap.size ≤ i) (hC : Kd.C k236 W B ks.length ks) (hB : B = SB ∨ ∀ ad, B = some ad → w.heap.size ≤ ad.block) : BehPost YS ks SB w (.returned (.agg #[.bool true, .slice P m c, .slice B ks.length d])) W := by
 obtain ⟨A, c', hv, hc, hC1⟩ := hI.C
 injection hv with h1 h2 h3
 subst h1 h2 h3
 exact ⟨P, c, B, d, rfl, hc, hC1, hC, fun ad h => hP _ (by subst h; rfl), hB, hF⟩
theorem mid_old {YS : List Int} {ks sl : List KS} {xs : List Int} {SB : Option Addr} {sd D : Nat} {w W6 : World} {P6 : Option Addr} {m6 c6 : Nat} (hy : xs = YS) (hz : sl = ks) (hf : Fr w W6 []) (hd : ∃ x, W6.heap[D]? = some (.cells #[.bool true, x, .slice SB sl.length sd] 175 (0, 0))) (hi : Iv W6 (.slice P6 m6 c6) xs) (ho : ∀ i, (Value.slice P6 m6 c6).ownBlock = some i → D < i) (hr : W6.heap[w.heap.size + 1 + 1]? = some (.cells #[.bool false, .slice none 0 0, .slice none 0 0] 175 (0, 0))) (hs : Kd.C k236 w SB sl.length sl) (hw : w.heap.size + 1 + 1 < D) : BehMid YS ks SB D w (W6.setCell ⟨D, 1, none⟩ (.slice P6 m6 c6)) := by
 subst hy hz
 obtain ⟨x, hd⟩ := hd
 have h1 := hf.setCell ⟨D, 1, none⟩ (.slice P6 m6 c6) (.inr (by simp; omega))
 exact ⟨P6, m6, c6, SB, sl.length, sd, h1, blk_to (blk_set hd 1 _) rfl, hi.fr (Fr.set W6 ⟨D, 1, none⟩ _) (fun i hi => by have := ho i hi; simp; omega), ho, rfl, Kd.C_below hs h1.below, .inl ⟨rfl, hs⟩, at_far hr (by simp; omega) _⟩
theorem behind_calls (has : Bool) (SA : Option Addr) (sc : Nat) (xs : List Int) (SB : Option Addr) (sd : Nat) (sl : List KS) (op A B : Int) (w : World) (h0 : 0 ≤ op) (h1 : op < 29) (hxl : xs.length ≤ 999999999) (hxc : xs.length ≤ sc) (hsl : sl.length ≤ 100000000) (htx : (takesL op).length ≤ xs.length)
  (hC : Kd.C (Kd.int .i64) w SA xs.length xs) (hS : Kd.C k236 w SB sl.length sl) (G : TabW w) :
  Calls Tryz.prog 126 #[.agg #[.bool has, .slice SA xs.length sc, .slice SB sl.length sd], .agg #[.int .i64 op, .int .i64 A, .int .i64 B]] w (BehPost (behindX op xs sl A) (behindS op xs sl A) SB w) := by
 obtain ⟨YS, hYS⟩ : ∃ x, behindX op xs sl A = x := ⟨_, rfl⟩
 obtain ⟨KS', hKS⟩ : ∃ x, behindS op xs sl A = x := ⟨_, rfl⟩
 rw [hYS, hKS]
 unfold behindX at hYS
 unfold behindS at hKS
 have hup := Tryz.underlying175
 have hui := Tryz.underlying113
 have huk := Tryz.underlying236
 have HC := AsM hC
 have HS := AsM hS
 have HT := AsM (fun W (hf : Fr w W []) => takes_calls op h0 h1 W (G.fr0 hf))
 have HE := AsM (fun W (hf : Fr w W []) => rEffect_calls op h0 h1 W (G.fr0 hf))
 have htl := takes_len op h0 h1
 have ht6 : op = 6 → 1 ≤ (takesL op).length := by rintro rfl; decide
 obtain ⟨h, hh⟩ : ∃ h, xs.length - (takesL op).length = h := ⟨_, rfl⟩
 rw [hh] at hYS hKS
 generalize takesL op = t at HT htl htx hh ht6
 have hhl : h + t.length = xs.length := by omega
 have HHL : Aside0 (op = 6 → h < xs.length) := ⟨fun h6 => by have := ht6 h6; omega⟩
 have hhx : h ≤ xs.length := by omega
 have hhc : h ≤ sc := by omega
 have e1 : IntKind.i64.wrap ((xs.length : Int) - (t.length : Int)) = (h : Int) := by rw [i64_w]; unfold wrap64; omega
 have hslc := slice_to SA xs.length sc h hhc
 have HYS := AsM hYS
 have HKS := AsM hKS
 clear hC hS G hh hhl hYS hKS htx ht6
 go_enter Tryz.func126, Tryz.ntmps126
 go_upto_region 1 with fail
 refine name_ (fun V => Aside0 (Fr w V []) ∧ Aside0 (V.heap[w.heap.size]? = some (.cells #[.bool has, .slice SA xs.length sc, .slice SB sl.length sd] 175 (0, 0))) ∧ Aside0 (V.heap[w.heap.size + 1]? = some (.cells #[.int .i64 op, .int .i64 A, .int .i64 B] 113 (0, 0))) ∧ Aside0 (V.heap[w.heap.size + 1 + 1]? = some (.cells #[.bool false, .slice none 0 0, .slice none 0 0] 175 (0, 0)))) ⟨⟨FQ⟩, ⟨blk_alloc (blk_alloc (blk_newN rfl) _) _⟩, ⟨by exact blk_alloc (blk_newN (by simp)) _⟩, ⟨by exact blk_newN (by simp)⟩⟩ ?_
 rintro V ⟨HF1, HX1, HY1, HR1⟩
 refine start_ (n := 9) (S := fun w' => w'.cell? ⟨w.heap.size, 1, none⟩ = some (.slice SA xs.length sc) ∧ w'.cell? ⟨w.heap.size + 1, 0, none⟩ = some (.int .i64 op)) (ds := []) #[false, false, false, false, false, false, false, false, false] (by kernel_rfl) rfl rfl ⟨blk_cell HX1.out 1, blk_cell HY1.out 0⟩ (fun hHeld => ?_)
 refine pure_ (i := 0) (N := some 12) (v := ?_) (a' := ?_) #[true, false, false, false, false, false, false, false, false] rfl rfl (by kernel_rfl) (fun _ _ _ h => h) (Or.inl ⟨by rfl, ?_⟩) ?_ ?_
 rotate_left
 ·intro w'
  go_simp
  with_reducible rfl
 rotate_left
 ·simp only [Act.put, lS, lZ, lU, i64_w, i32_w]
  rfl
 refine take_ (i := 1) (N := some 13) (v := ?_) (a' := ?_) #[true, true, false, false, false, false, false, false, false] rfl rfl (by kernel_rfl) (fun _ _ _ h => h) (Or.inl ⟨by rfl, ?_⟩) hHeld ?_ ?_
 rotate_left
 ·rintro w' ⟨s0, s1⟩
  go_simp
  with_reducible rfl
 rotate_left
 ·simp only [Act.put, lS, lZ, lU, i64_w, i32_w]
  rfl
 refine pure_ (i := 2) (N := some 14) (v := ?_) (a' := ?_) #[true, true, true, false, false, false, false, false, false] rfl rfl (by kernel_rfl) (fun _ _ _ h => h) (Or.inl ⟨by rfl, ?_⟩) ?_ ?_
 rotate_left
 ·intro w'
  go_simp
  with_reducible rfl
 rotate_left
 ·simp only [Act.put, lS, lZ, lU, i64_w, i32_w]
  rfl
 refine pure_ (i := 3) (N := some 15) (v := ?_) (a' := ?_) #[true, true, true, true, false, false, false, false, false] rfl rfl (by kernel_rfl) (fun _ _ _ h => h) (Or.inl ⟨by rfl, ?_⟩) ?_ ?_
 rotate_left
 ·intro w'
  go_simp
  with_reducible rfl
 rotate_left
 ·simp only [Act.put, lS, lZ, lU, i64_w, i32_w]
  rfl
 refine take_ (i := 4) (N := some 16) (v := ?_) (a' := ?_) #[true, true, true, true, true, false, false, false, false] rfl rfl (by kernel_rfl) (fun _ _ _ h => h) (Or.inl ⟨by rfl, ?_⟩) hHeld ?_ ?_
 rotate_left
 ·rintro w' ⟨s0, s1⟩
  go_simp
  with_reducible rfl
 rotate_left
 ·simp only [Act.put, lS, lZ, lU, i64_w, i32_w]
  rfl
 refine one_ (i := 5) (N := some 17) #[true, true, true, true, true, true, false, false, false] rfl rfl (by kernel_rfl) (by decide) (fun K hK => ?_)
 refine goes_ (f := 150) Tryz.func150 (by rfl) (by rfl) #[.int .i64 op] (by rfl) rfl rfl (by first | (go_simp; done) | (go_simp; rfl) | rfl) ?_
 refine (HT.out _ (FX HF1.out)).mono ?_
 rintro e W2 ⟨TA, tc, rfl, htc, hT2, hF2⟩
 have HF2 : Aside0 (Fr w W2 []) := ⟨HF1.out.trans (M := []) (Fr.trans (M := []) FQ hF2 (by simp)) (by simp)⟩
 have HX2 := AsM (hF2.blk HX1.out (by simp))
 have HY2 := AsM (hF2.blk HY1.out (by simp))
 have HR2 := AsM (hF2.blk HR1.out (by simp))
 refine ⟨_, rfl, hK.out _ _ ⟨blk_cell HX2.out 1, blk_cell HY2.out 0⟩ ?_⟩
 clear hF2 hT2 hK K
 intro hHeld2
 refine norm_ (a' := ?_) ?_ ?_
 rotate_left
 ·show Act.put _ (some 17) _ = _
  simp only [Act.put, lS, lZ, lU, i64_w, i32_w]
  rfl
 refine pure_ (i := 6) (N := some 18) (v := ?_) (a' := ?_) #[true, true, true, true, true, true, true, false, false] rfl rfl (by kernel_rfl) (fun _ _ _ h => h) (Or.inl ⟨by rfl, ?_⟩) ?_ ?_
 rotate_left
 ·intro w'
  go_simp
  with_reducible rfl
 rotate_left
 ·simp only [Act.put, lS, lZ, lU, i64_w, i32_w]
  rfl
 refine pure_ (i := 7) (N := some 19) (v := ?_) (a' := ?_) #[true, true, true, true, true, true, true, true, false] rfl rfl (by kernel_rfl) (fun _ _ _ h => h) (Or.inl ⟨by rfl, ?_⟩) ?_ ?_
 rotate_left
 ·intro w'
  go_simp
  with_reducible rfl
 rotate_left
 ·simp only [Act.put, lS, lZ, lU, i64_w, i32_w]
  rfl
 refine pure_ (i := 8) (N := some 5) (v := ?_) (a' := ?_) #[true, true, true, true, true, true, true, true, true] rfl rfl (by kernel_rfl) (fun _ _ _ h => h) (Or.inl ⟨by rfl, ?_⟩) ?_ ?_
 rotate_left
 ·intro w'
  go_simp
  with_reducible rfl
 rotate_left
 ·simp only [Act.put, lS, lZ, lU, i64_w, i32_w]
  rfl
 refine done_ (by kernel_rfl) ?_
 have x2 := blk_cell HX2.out 2
 have hx2l := blk_lt HX2.out
 go_upto_region 3 with fail
 refine name_ (fun V => Aside0 (Fr w V []) ∧ Aside0 (V.heap[w.heap.size]? = some (.cells #[.bool has, .slice SA xs.length sc, .slice SB sl.length sd] 175 (0, 0))) ∧ Aside0 (V.heap[w.heap.size + 1]? = some (.cells #[.int .i64 op, .int .i64 A, .int .i64 B] 113 (0, 0))) ∧ Aside0 (V.heap[w.heap.size + 1 + 1]? = some (.cells #[.bool false, .slice none 0 0, .slice none 0 0] 175 (0, 0))) ∧ Aside0 (V.heap[W2.heap.size]? = some (.cells #[.bool true, .slice none 0 0, .slice SB sl.length sd] 175 (0, 0)))) ⟨⟨FX HF2.out⟩, ⟨by (with_reducible (repeat (first | apply blk_drew | apply blk_alloc | apply blk_set))); exact HX2.out⟩, ⟨by (with_reducible (repeat (first | apply blk_drew | apply blk_alloc | apply blk_set))); exact HY2.out⟩, ⟨by (with_reducible (repeat (first | apply blk_drew | apply blk_alloc | apply blk_set))); exact HR2.out⟩, ⟨blk_newN rfl⟩⟩ ?_
 have hW2 : w.heap.size + 1 + 1 < W2.heap.size := blk_lt HR2.out
 obtain ⟨D, hD⟩ : ∃ D, W2.heap.size = D := ⟨_, rfl⟩
 rw [hD] at hW2 ⊢
 clear x2 hx2l hD HF1 HX1 HY1 HR1 HF2 HX2 HY2 HR2 hHeld2
 rintro V3 ⟨HF3, HX3, HY3, HR3, HD3⟩
 have HCV := AsM (Kd.C_below HC.out HF3.out.below)
 have HCH : Aside0 ((Kd.int .i64).C V3 SA h (xs.take h)) := ⟨C_take HCV.out hhx⟩
 refine start_ (n := 9) (S := fun w' => w'.cell? ⟨D, 1, none⟩ = some (.slice none 0 0) ∧ w'.cell? ⟨w.heap.size, 1, none⟩ = some (.slice SA xs.length sc)) (ds := [6, 8]) #[false, false, false, false, false, false, false, false, false] (by kernel_rfl) rfl rfl ⟨blk_cell HD3.out 1, blk_cell HX3.out 1⟩ (fun hHeld => ?_)
 refine pure_ (i := 0) (N := some 23) (v := ?_) (a' := ?_) #[true, false, false, false, false, false, false, false, false] rfl rfl (by kernel_rfl) (fun _ _ _ h => h) (Or.inl ⟨by rfl, ?_⟩) ?_ ?_
 rotate_left
 ·intro w'
  go_simp
  with_reducible rfl
 rotate_left
 ·simp only [Act.put, lS, lZ, lU, i64_w, i32_w]
  rfl
 refine take_ (i := 1) (N := some 24) (v := ?_) (a' := ?_) #[true, true, false, false, false, false, false, false, false] rfl rfl (by kernel_rfl) (fun _ _ _ h => h) (Or.inl ⟨by rfl, ?_⟩) hHeld ?_ ?_
 rotate_left
 ·rintro w' ⟨s0, s1⟩
  go_simp
  with_reducible rfl
 rotate_left
 ·simp only [Act.put, lS, lZ, lU, i64_w, i32_w]
  rfl
 refine pure_ (i := 2) (N := some 25) (v := ?_) (a' := ?_) #[true, true, true, false, false, false, false, false, false] rfl rfl (by kernel_rfl) (fun _ _ _ h => h) (Or.inl ⟨by rfl, ?_⟩) ?_ ?_
 rotate_left
 ·intro w'
  go_simp
  with_reducible rfl
 rotate_left
 ·simp only [Act.put, lS, lZ, lU, i64_w, i32_w]
  rfl
 refine take_ (i := 3) (N := some 26) (v := ?_) (a' := ?_) #[true, true, true, true, false, false, false, false, false] rfl rfl (by kernel_rfl) (fun _ _ _ h => h) (Or.inl ⟨by rfl, ?_⟩) hHeld ?_ ?_
 rotate_left
 ·rintro w' ⟨s0, s1⟩
  go_simp
  with_reducible rfl
 rotate_left
 ·simp only [Act.put, lS, lZ, lU, i64_w, i32_w]
  rfl
 refine pure_ (i := 4) (N := some 27) (v := ?_) (a' := ?_) #[true, true, true, true, true, false, false, false, false] rfl rfl (by kernel_rfl) (fun _ _ _ h => h) (Or.inl ⟨by rfl, ?_⟩) ?_ ?_
 rotate_left
 ·intro w'
  go_simp
  with_reducible rfl
 rotate_left
 ·simp only [Act.put, lS, lZ, lU, i64_w, i32_w]
  rfl
 refine pure_ (i := 5) (N := some 28) (v := ?_) (a' := ?_) #[true, true, true, true, true, true, false, false, false] rfl rfl (by kernel_rfl) (fun _ _ _ h => h) (Or.inl ⟨by rfl, ?_⟩) ?_ ?_
 rotate_left
 ·intro w'
  go_simp
  with_reducible rfl
 rotate_left
 ·simp only [Act.put, lS, lZ, lU, i64_w, i32_w]
  rfl
 refine last_ (i := 6) (N := some 29) #[true, true, true, true, true, true, true, false, false] rfl rfl (by kernel_rfl) (by decide) (fun K hK => ?_)
 obtain ⟨v4, W4, hr4, hI4, hg4, hat4⟩ := run_appI V3.drew (.slice none 0 0) [] (xs.take h) 23 SA h sc (Iv.nil _) HCH.out (by simp; omega)
 obtain ⟨P4, m4, c4, hv4⟩ := own_isSlice hI4
 subst hv4
 refine step_val rfl (exec_append rfl rfl rfl hr4) ?_
 have HI4 := AsM hI4
 have HG4 := AsM (Fr.grown (Fr.refl V3.drew []) hg4 (fun k hk => by simp [Value.ownBlock] at hk))
 have HA4 : Aside0 (∀ i, (Value.slice P4 m4 c4).ownBlock = some i → i = V3.heap.size) := ⟨fun i hi => by rcases hat4 with h9 | h9 <;> rw [h9] at hi <;> simp [Value.ownBlock] at hi; exact hi.symm⟩
 have HD4 := AsM (HG4.out.blk (blk_drew HD3.out) (by simp))
 have HX4 := AsM (HG4.out.blk (blk_drew HX3.out) (by simp))
 have HY4 := AsM (HG4.out.blk (blk_drew HY3.out) (by simp))
 have HR4 := AsM (HG4.out.blk (blk_drew HR3.out) (by simp))
 have q4 := blk_cell HD4.out 1
 have zz4 := blk_frozen HD4.out 1
 clear hr4 hI4 hg4 hat4
 refine hK.out _ _ ?_
 clear hK K
 refine norm_ (a' := ?_) ?_ ?_
 rotate_left
 ·show Act.put _ (some 29) _ = _
  simp only [Act.put, lS, lZ, lU, i64_w, i32_w]
  rfl
 refine pure_ (i := 7) (N := some 30) (v := ?_) (a' := ?_) #[true, true, true, true, true, true, true, true, false] rfl rfl (by kernel_rfl) (fun _ _ _ h => h) (Or.inl ⟨by rfl, ?_⟩) ?_ ?_
 rotate_left
 ·intro w'
  go_simp
  with_reducible rfl
 rotate_left
 ·simp only [Act.put, lS, lZ, lU, i64_w, i32_w]
  rfl
 refine last_ (i := 8) (N := none) #[true, true, true, true, true, true, true, true, true] rfl rfl (by kernel_rfl) (by decide) (fun K hK => ?_)
 refine skip_ (w1 := ?_) (by rfl) rfl ?_ ?_
 rotate_left
 ·go_simp
  rfl
 refine hK.out _ _ ?_
 clear hK K
 refine done_ (by kernel_rfl) ?_
 go_upto_region 4 with fail
 refine name_ (fun V => Aside0 (Fr w V []) ∧ Aside0 (V.heap[w.heap.size]? = some (.cells #[.bool has, .slice SA xs.length sc, .slice SB sl.length sd] 175 (0, 0))) ∧ Aside0 (V.heap[w.heap.size + 1]? = some (.cells #[.int .i64 op, .int .i64 A, .int .i64 B] 113 (0, 0))) ∧ Aside0 (V.heap[w.heap.size + 1 + 1]? = some (.cells #[.bool false, .slice none 0 0, .slice none 0 0] 175 (0, 0))) ∧ Aside0 (V.heap[D]? = some (.cells #[.bool true, .slice P4 m4 c4, .slice SB sl.length sd] 175 (0, 0))) ∧ Aside0 (Iv V (.slice P4 m4 c4) (xs.take h)) ∧ Aside0 (∀ i, (Value.slice P4 m4 c4).ownBlock = some i → D < i)) ⟨⟨(HF3.out.drew.trans (M := []) HG4.out (by simp)).setCell _ _ (.inr (by simp; omega))⟩, ⟨at_far HX4.out (by simp; omega) _⟩, ⟨at_far HY4.out (by simp; omega) _⟩, ⟨at_far HR4.out (by simp; omega) _⟩, ⟨blk_to (blk_set HD4.out 1 _) rfl⟩, ⟨by have := HI4.out.fr (Fr.set W4 ⟨D, 1, none⟩ (.slice P4 m4 c4)) (fun i hi => by have := HA4.out i hi; have := blk_lt HD3.out; simp; omega); simpa using this⟩, ⟨fun i hi => by have := HA4.out i hi; have := blk_lt HD3.out; omega⟩⟩ ?_
 clear q4 zz4 HF3 HX3 HY3 HR3 HD3 HG4 HX4 HY4 HR4 HD4 HI4 HA4 HCH hHeld
 rintro V5 ⟨HF5, HX5, HY5, HR5, HD5, HI5, HA5⟩
 obtain ⟨y0, y1⟩ := cc2 HY5.out
 have x1 := blk_cell HX5.out 1
 have x2 := blk_cell HX5.out 2
 have d1 := blk_cell HD5.out 1
 have hdl := blk_lt HD5.out
 have hth : (xs.take h).length + 1 ≤ 1000000000 := by rw [List.length_take]; omega
 have HND := AsM (show D ∉ (Value.slice P4 m4 c4).ownBlock.toList from fun h => by have := HA5.out _ (by simpa using h); omega)
 have HNX := AsM (show w.heap.size ∉ (Value.slice P4 m4 c4).ownBlock.toList from fun h => by have := HA5.out _ (by simpa using h); omega)
 have HNY := AsM (show w.heap.size + 1 ∉ (Value.slice P4 m4 c4).ownBlock.toList from fun h => by have := HA5.out _ (by simpa using h); omega)
 have HNR := AsM (show w.heap.size + 1 + 1 ∉ (Value.slice P4 m4 c4).ownBlock.toList from fun h => by have := HA5.out _ (by simpa using h); omega)
 go_upto_block 0 with fail
 go_cut [7] (fun x7 wx => BehMid YS KS' SB D w wx)
 case first =>
  by_cases c6 : op = 6
  ·subst c6
   obtain ⟨adx, rfl, hx⟩ := iat_at (Kd.C_below HC.out HF5.out.below) h (HHL.out rfl)
   obtain ⟨top, htop⟩ : ∃ x, xs.getD h 0 = x := ⟨_, rfl⟩
   rw [htop] at hx
   have hys : xs.take h ++ [top] = YS := by have := HYS.out; simpa only [if_true, htop] using this
   have hks : withoutL sl A ++ [⟨A, top⟩] = KS' := by have := HKS.out; simpa only [if_true, htop] using this
   have HYS7 := AsM hys
   have HKS7 := AsM hks
   have hhl := HHL.out rfl
   clear hys hks htop HHL
   go_upto_region 14 with (first | (at_builtin; refine appN 23 3 1 8 (.int .i64 0) (.tmp 64) (.tmp 66) rfl rfl Tryz.underlying23 info3 rfl (by decide) (.slice P4 m4 c4) (xs.take h).length ((xs.take h).map (Value.int .i64)) V5.heap.size [.int .i64 top] rfl rfl (own_fr HI5.out (L := []) FQ (fun _ _ => List.not_mem_nil)) (blk_newN rfl) rfl (by simp [Value.oneCell']) hth (by omega) ?_; intro v6 W6 hO6 hg6 hat6; obtain ⟨P6, m6, c6, hv6⟩ := own_isSlice hO6; subst hv6; have HI6 := AsM (Iv.snoc hO6); have HG6 := AsM (Fr.grown (a := V5) (L := (Value.slice P4 m4 c4).ownBlock.toList) FQ hg6 (fun k hk => .inl (by simp [hk]))); have HO6 : Aside0 (∀ i, (Value.slice P6 m6 c6).ownBlock = some i → D < i) := ⟨fun i hi => by rcases hat6 with h9 | h9; exact HA5.out i (h9 ▸ hi); rw [h9] at hi; have := blk_lt HD5.out; simp at hi; omega⟩; have HD6 := AsM (HG6.out.blk HD5.out HND.out); have HX6 := AsM (HG6.out.blk HX5.out HNX.out); have HY6 := AsM (HG6.out.blk HY5.out HNY.out); have HR6 := AsM (HG6.out.blk HR5.out HNR.out); have hd6 := blk_lt HD6.out; have q6 := blk_cell HD6.out 1; have zz6 := blk_frozen HD6.out 1; have y61 := blk_cell HY6.out 1; have x62 := blk_cell HX6.out 2; clear hO6 hg6 hat6))
   have hf6 : Fr w W6 [] := HF5.out.trans HG6.out (fun i hi => .inr (by have := HA5.out i (by simpa using hi); omega))
   refine name_ (fun V => Aside0 (Fr w V []) ∧ Aside0 (V.heap[w.heap.size]? = some (.cells #[.bool has, .slice (some adx) xs.length sc, .slice SB sl.length sd] 175 (0, 0))) ∧ Aside0 (V.heap[w.heap.size + 1]? = some (.cells #[.int .i64 6, .int .i64 A, .int .i64 B] 113 (0, 0))) ∧ Aside0 (V.heap[w.heap.size + 1 + 1]? = some (.cells #[.bool false, .slice none 0 0, .slice none 0 0] 175 (0, 0))) ∧ Aside0 (V.heap[D]? = some (.cells #[.bool true, .slice P6 m6 c6, .slice SB sl.length sd] 175 (0, 0))) ∧ Aside0 (Iv V (.slice P6 m6 c6) (xs.take h ++ [top]))) ⟨⟨hf6.setCell _ _ (.inr (by simp; omega))⟩, ⟨at_far HX6.out (by simp; omega) _⟩, ⟨at_far HY6.out (by simp; omega) _⟩, ⟨at_far HR6.out (by simp; omega) _⟩, ⟨blk_to (blk_set HD6.out 1 _) rfl⟩, ⟨HI6.out.fr (Fr.set W6 ⟨D, 1, none⟩ _) (fun i hi => by have := HO6.out i hi; simp; omega)⟩⟩ ?_
   have HOW : Aside0 (∀ W, Fr w W [] → Calls Tryz.prog 152 #[.slice SB sl.length sd, .int .i64 A] W (OwPost (withoutL sl A) W)) := ⟨fun W hf => without_calls SB sd sl A W (Kd.C_below HS.out hf.below) hsl⟩
   have hwl : (withoutL sl A).length ≤ 100000000 := Nat.le_trans (List.length_filter_le _ _) hsl
   have HKS9 := AsM HKS7.out
   obtain ⟨wl, hwle⟩ : ∃ x, withoutL sl A = x := ⟨_, rfl⟩
   rw [hwle] at HOW hwl HKS9
   clear hx hwle HKS7 hf6 q6 zz6 y61 x62 hd6 y0 y1 x1 x2 d1 hdl hth HND HNX HNY HNR HF5 HX5 HY5 HR5 HD5 HI5 HA5 HG6 HX6 HY6 HR6 HD6 HI6
   rintro V6 ⟨HF6, HX6, HY6, HR6, HD6, HI6⟩
   have hd6 := blk_lt HD6.out
   refine start_ (n := 13) (S := fun w' => w'.cell? ⟨w.heap.size, 2, none⟩ = some (.slice SB sl.length sd) ∧ w'.cell? ⟨w.heap.size + 1, 1, none⟩ = some (.int .i64 A)) (ds := [10, 12]) #[false, false, false, false, false, false, false, false, false, false, false, false, false] (by kernel_rfl) rfl rfl ⟨blk_cell HX6.out 2, blk_cell HY6.out 1⟩ (fun hHeld => ?_)
   refine pure_ (i := 0) (N := some 69) (v := ?_) (a' := ?_) #[true, false, false, false, false, false, false, false, false, false, false, false, false] rfl rfl (by kernel_rfl) (fun _ _ _ h => h) (Or.inl ⟨by rfl, ?_⟩) ?_ ?_
   rotate_left
   ·intro w'
    go_simp
    with_reducible rfl
   rotate_left
   ·simp only [Act.put, lS, lZ, lU, i64_w, i32_w]
    rfl
   refine take_ (i := 1) (N := some 70) (v := ?_) (a' := ?_) #[true, true, false, false, false, false, false, false, false, false, false, false, false] rfl rfl (by kernel_rfl) (fun _ _ _ h => h) (Or.inl ⟨by rfl, ?_⟩) hHeld ?_ ?_
   rotate_left
   ·rintro w' ⟨s0, s1⟩
    go_simp
    with_reducible rfl
   rotate_left
   ·simp only [Act.put, lS, lZ, lU, i64_w, i32_w]
    rfl
   refine pure_ (i := 2) (N := some 71) (v := ?_) (a' := ?_) #[true, true, true, false, false, false, false, false, false, false, false, false, false] rfl rfl (by kernel_rfl) (fun _ _ _ h => h) (Or.inl ⟨by rfl, ?_⟩) ?_ ?_
   rotate_left
   ·intro w'
    go_simp
    with_reducible rfl
   rotate_left
   ·simp only [Act.put, lS, lZ, lU, i64_w, i32_w]
    rfl
   refine take_ (i := 3) (N := some 72) (v := ?_) (a' := ?_) #[true, true, true, true, false, false, false, false, false, false, false, false, false] rfl rfl (by kernel_rfl) (fun _ _ _ h => h) (Or.inl ⟨by rfl, ?_⟩) hHeld ?_ ?_
   rotate_left
   ·rintro w' ⟨s0, s1⟩
    go_simp
    with_reducible rfl
   rotate_left
   ·simp only [Act.put, lS, lZ, lU, i64_w, i32_w]
    rfl
   refine pure_ (i := 5) (N := some 74) (v := ?_) (a' := ?_) #[true, true, true, true, false, true, false, false, false, false, false, false, false] rfl rfl (by kernel_rfl) (fun _ _ _ h => h) (Or.inl ⟨by rfl, ?_⟩) ?_ ?_
   rotate_left
   ·intro w'
    go_simp
    with_reducible rfl
   rotate_left
   ·simp only [Act.put, lS, lZ, lU, i64_w, i32_w]
    rfl
   refine take_ (i := 6) (N := some 75) (v := ?_) (a' := ?_) #[true, true, true, true, false, true, true, false, false, false, false, false, false] rfl rfl (by kernel_rfl) (fun _ _ _ h => h) (Or.inl ⟨by rfl, ?_⟩) hHeld ?_ ?_
   rotate_left
   ·rintro w' ⟨s0, s1⟩
    go_simp
    with_reducible rfl
   rotate_left
   ·simp only [Act.put, lS, lZ, lU, i64_w, i32_w]
    rfl
   refine pure_ (i := 7) (N := some 76) (v := ?_) (a' := ?_) #[true, true, true, true, false, true, true, true, false, false, false, false, false] rfl rfl (by kernel_rfl) (fun _ _ _ h => h) (Or.inl ⟨by rfl, ?_⟩) ?_ ?_
   rotate_left
   ·intro w'
    go_simp
    with_reducible rfl
   rotate_left
   ·simp only [Act.put, lS, lZ, lU, i64_w, i32_w]
    rfl
   refine pure_ (i := 8) (N := some 77) (v := ?_) (a' := ?_) #[true, true, true, true, false, true, true, true, true, false, false, false, false] rfl rfl (by kernel_rfl) (fun _ _ _ h => h) (Or.inl ⟨by rfl, ?_⟩) ?_ ?_
   rotate_left
   ·intro w'
    go_simp
    with_reducible rfl
   rotate_left
   ·simp only [Act.put, lS, lZ, lU, i64_w, i32_w]
    rfl
   refine join_ (σ := Nat × Option Addr × Nat × List Value) 3 #[true, true, true, true, true, true, true, true, true, true, false, false, false] (fun s => [(73, .slice s.2.1 wl.length s.2.2.1), (78, .slice (some ⟨s.1, 0, none⟩) 1 1)]) (fun s w' => Fr V6.drew w' [] ∧ w'.ownsRow 0 236 2 (.slice s.2.1 wl.length s.2.2.1) wl.length s.2.2.2 ∧ Reps KR 2 wl s.2.2.2 ∧ (∀ i, (Value.slice s.2.1 wl.length s.2.2.1).ownBlock = some i → V6.heap.size ≤ i) ∧ w'.heap[s.1]? = some (.cells #[.int .i64 A, .int .i64 top] 236 (0, 0))) ?_ ?_
   rotate_left
   ·intro hCont
    refine two_ (i := 4) (j := 9) (Ni := some 73) (Nj := some 78) #[true, true, true, true, true, true, true, true, true, false, false, false, false] #[true, true, true, true, false, true, true, true, true, true, false, false, false] rfl rfl rfl rfl (by kernel_rfl) (by decide) (by decide) (fun K hK => ?_) (fun K hK => ?_)
    ·refine goes_ (f := 152) Tryz.func152 (by rfl) (by rfl) #[.slice SB sl.length sd, .int .i64 A] (by rfl) rfl rfl (by first | (go_simp; done) | (go_simp; rfl) | rfl) ?_
     refine (HOW.out _ (FX HF6.out)).mono ?_
     rintro e W8 ⟨A8, c8, vals8, rfl, ho8, hrp8, hob8, hF8⟩
     have HX8 := AsM (hF8.blk (by exact HX6.out) (by simp))
     have HY8 := AsM (hF8.blk (by exact HY6.out) (by simp))
     have HO8 := AsM ho8
     have HQ8 := AsM (And.intro hrp8 (And.intro hob8 hF8))
     clear ho8 hrp8 hob8 hF8
     refine ⟨_, rfl, hK.out _ _ ⟨blk_cell HX8.out 2, blk_cell HY8.out 1⟩ (fun hHeld => ?_)⟩
     clear hK K
     refine norm_ (a' := ?_) ?_ ?_
     rotate_left
     ·show Act.put _ (some 73) _ = _
      simp only [Act.put, lS, lZ, lU, i64_w, i32_w]
      rfl
     refine one_ (i := 9) (N := some 78) #[true, true, true, true, true, true, true, true, true, true, false, false, false] rfl rfl (by kernel_rfl) (by decide) (fun K hK => ?_)
     refine value_ (w1 := ?_) (v := ?_) (by rfl) rfl ?_ ?_
     rotate_left 2
     ·go_simp
      constructor
      ·rfl
      ·rfl
     refine hK.out _ _ ⟨blk_cell (blk_alloc HX8.out _) 2, blk_cell (blk_alloc HY8.out _) 1⟩ (fun hHeld => ?_)
     clear hK K
     refine norm_ (a' := ?_) ?_ ?_
     rotate_left
     ·show Act.put _ (some 78) _ = _
      simp only [Act.put, lS, lZ, lU, i64_w, i32_w]
      rfl
     obtain ⟨hrp8, hob8, hF8⟩ := HQ8.out
     exact norm_ (by simp only [putAll, Act.put, List.setIfInBounds_toArray, List.set_cons_zero, List.set_cons_succ]) (hCont (W8.heap.size, A8, c8, vals8) _ ⟨FX hF8, own_fr HO8.out (L := []) FQ (fun _ _ => List.not_mem_nil), hrp8, fun i hi => by have := hob8 i hi; simpa using this, blk_newN rfl⟩)
    ·refine value_ (w1 := ?_) (v := ?_) (by rfl) rfl ?_ ?_
     rotate_left 2
     ·go_simp
      constructor
      ·rfl
      ·rfl
     refine hK.out _ _ ⟨blk_cell (blk_alloc (blk_drew HX6.out) _) 2, blk_cell (blk_alloc (blk_drew HY6.out) _) 1⟩ (fun hHeld => ?_)
     clear hK K
     refine norm_ (a' := ?_) ?_ ?_
     rotate_left
     ·show Act.put _ (some 78) _ = _
      simp only [Act.put, lS, lZ, lU, i64_w, i32_w]
      rfl
     refine one_ (i := 4) (N := some 73) #[true, true, true, true, true, true, true, true, true, true, false, false, false] rfl rfl (by kernel_rfl) (by decide) (fun K hK => ?_)
     refine goes_ (f := 152) Tryz.func152 (by rfl) (by rfl) #[.slice SB sl.length sd, .int .i64 A] (by rfl) rfl rfl (by first | (go_simp; done) | (go_simp; rfl) | rfl) ?_
     refine (HOW.out _ (FX HF6.out)).mono ?_
     rintro e W8 ⟨A8, c8, vals8, rfl, ho8, hrp8, hob8, hF8⟩
     have HX8 := AsM (hF8.blk (by exact blk_alloc (blk_drew HX6.out) _) (by simp))
     have HY8 := AsM (hF8.blk (by exact blk_alloc (blk_drew HY6.out) _) (by simp))
     have HB8 := AsM (hF8.blk (g := V6.drew.heap.size) (blk_newN rfl) (by simp))
     have HO8 := AsM ho8
     have HQ8 := AsM (And.intro hrp8 (And.intro hob8 hF8))
     clear ho8 hrp8 hob8 hF8
     refine ⟨_, rfl, hK.out _ _ ⟨blk_cell HX8.out 2, blk_cell HY8.out 1⟩ (fun hHeld => ?_)⟩
     clear hK K
     refine norm_ (a' := ?_) ?_ ?_
     rotate_left
     ·show Act.put _ (some 73) _ = _
      simp only [Act.put, lS, lZ, lU, i64_w, i32_w]
      rfl
     obtain ⟨hrp8, hob8, hF8⟩ := HQ8.out
     exact norm_ (by simp only [putAll, Act.put, List.setIfInBounds_toArray, List.set_cons_zero, List.set_cons_succ]) (hCont (V6.heap.size, A8, c8, vals8) _ ⟨Fr.trans (M := []) ((Fr.refl V6.drew []).alloc _) hF8 (fun i hi => by cases hi), HO8.out, hrp8, fun i hi => by have := hob8 i hi; simp at this; omega, HB8.out⟩)
   rintro ⟨s1, s2, s3, s4⟩ w9 ⟨hfw, ho9, hrp9, hob9, hbg9⟩
   simp only at ho9 hrp9 hob9 hbg9
   refine norm_ (a' := ?_) ?_ ?_
   rotate_left
   ·simp only [putAll, Act.put, List.setIfInBounds_toArray, List.set_cons_zero, List.set_cons_succ]
    rfl
   have HFX := AsM (hfw.blk (by exact HX6.out) (by simp))
   have HFR := AsM (hfw.blk (by exact HR6.out) (by simp))
   have HFD := AsM (hfw.blk (by exact HD6.out) (by simp))
   refine last_ (i := 10) (N := some 79) #[true, true, true, true, true, true, true, true, true, true, true, false, false] rfl rfl (by kernel_rfl) (by decide) (fun K hK => ?_)
   refine stepN 173 236 2 16 (.agg #[.int .i64 0, .int .i64 0]) (.tmp 73) (.tmp 78) rfl rfl Tryz.underlying173 info236 rfl (by decide) (.slice s2 wl.length s3) wl.length s4 s1 [.int .i64 A, .int .i64 top] rfl rfl ho9 hbg9 rfl (by simp [Value.oneCell']) (by omega) (by omega) ?_
   intro v9 W9 hO9 hg9 hat9
   obtain ⟨P9, m9, c9, hv9⟩ := own_isSlice hO9
   subst hv9
   have HO9 := AsM hO9
   have HAT9 := AsM hat9
   have HG9 := AsM (Fr.grown (Fr.refl _ (Value.slice s2 wl.length s3).ownBlock.toList) hg9 (fun k hk => .inl (by simp [hk])))
   have HN9 : ∀ g, g < V6.heap.size → g ∉ (Value.slice s2 wl.length s3).ownBlock.toList := fun g hg h => by have := hob9 _ (by simpa using h); omega
   have HFD9 := AsM (HG9.out.blk HFD.out (HN9 _ hd6))
   have HFR9 := AsM (HG9.out.blk HFR.out (HN9 _ (blk_lt HR6.out)))
   have zz9 := blk_frozen HFD9.out 2
   have q9 := blk_cell HFD9.out 2
   clear hO9 hg9 hat9
   refine hK.out _ _ ?_
   clear hK K
   refine norm_ (a' := ?_) ?_ ?_
   rotate_left
   ·show Act.put _ (some 79) _ = _
    simp only [Act.put, lS, lZ, lU, i64_w, i32_w]
    rfl
   refine pure_ (i := 11) (N := some 80) (v := ?_) (a' := ?_) #[true, true, true, true, true, true, true, true, true, true, true, true, false] rfl rfl (by kernel_rfl) (fun _ _ _ h => h) (Or.inl ⟨by rfl, ?_⟩) ?_ ?_
   rotate_left
   ·intro w'
    go_simp
    with_reducible rfl
   rotate_left
   ·simp only [Act.put, lS, lZ, lU, i64_w, i32_w]
    rfl
   refine last_ (i := 12) (N := none) #[true, true, true, true, true, true, true, true, true, true, true, true, true] rfl rfl (by kernel_rfl) (by decide) (fun K hK => ?_)
   refine skip_ (w1 := ?_) (by rfl) rfl ?_ ?_
   rotate_left
   ·go_simp
    rfl
   refine hK.out _ _ ?_
   clear hK K
   refine done_ (by kernel_rfl) ?_
   go_wp2
   go_meet
   have hf9 : Fr w W9 [] := (HF6.out.drew.trans (M := []) hfw (by simp)).trans HG9.out (fun i hi => .inr (by have := hob9 i (by simpa using hi); have := HF6.out.size; simp at *; omega))
   have hfD : Fr W9 (W9.setCell ⟨D, 2, none⟩ (.slice P9 m9 c9)) [D] := Fr.set W9 ⟨D, 2, none⟩ _
   have hrp : Reps KR 2 (wl ++ [(⟨A, top⟩ : KS)]) (s4 ++ [.int .i64 A, .int .i64 top]) := hrp9.snoc rfl rfl
   have hno : ∀ i, (Value.slice P9 m9 c9).ownBlock = some i → V6.heap.size ≤ i := fun i hi => by
    rcases HAT9.out with h9 | h9
    ·exact hob9 i (h9 ▸ hi)
    ·rw [h9] at hi
     have := hfw.size
     simp at hi
     simp at this
     omega
   obtain ⟨B9, d9, hv9, hdc, hC9⟩ := C_of_own (d := k236) (own_fr HO9.out hfD (fun i hi => by have := hno i hi; simp; omega)) (reps_kept hrp _) (by simp)
   injection hv9 with h1 h2 h3
   subst h1 h2 h3
   refine ⟨P6, m6, c6, P9, wl.length + 1, c9, hf9.setCell _ _ (.inr (by simp; omega)), blk_to (blk_set HFD9.out 2 _) rfl, ?_, HO6.out, ?_, ?_, .inr ?_, at_far HFR9.out (by simp; omega) _⟩
   ·rw [← HYS7.out]
    exact (HI6.out.fr (w := V6.drew) (w' := w9) hfw (fun _ _ => List.not_mem_nil) |>.fr HG9.out (fun i hi => HN9 i (own_lt HI6.out i hi))).fr hfD (fun i hi => by have := HO6.out i hi; simp; omega)
   ·rw [← HKS9.out]; simp
   ·rw [← HKS9.out]; simpa using hC9
   ·rintro ad rfl
    have h5 := hno _ rfl
    omega
  have n6 : (op == 6) = false := by simpa using c6
  have hks : sl = KS' := by rw [← HKS.out, if_neg c6]
  subst hks
  by_cases c7 : op = 7
  ·subst c7
   have hys : xs.take h ++ [slotL sl A] = YS := by have := HYS.out; simpa using this
   subst hys
   clear HYS HKS HHL c6
   go_upto_region 16 with fail
   refine start_ (n := 11) (S := fun w' => w'.cell? ⟨D, 1, none⟩ = some (.slice P4 m4 c4) ∧ w'.cell? ⟨w.heap.size, 2, none⟩ = some (.slice SB sl.length sd) ∧ w'.cell? ⟨w.heap.size + 1, 1, none⟩ = some (.int .i64 A)) (ds := [8, 10]) #[false, false, false, false, false, false, false, false, false, false, false] (by kernel_rfl) rfl rfl ⟨blk_cell HD5.out 1, blk_cell HX5.out 2, blk_cell HY5.out 1⟩ (fun hHeld => ?_)
   refine pure_ (i := 0) (N := some 83) (v := ?_) (a' := ?_) #[true, false, false, false, false, false, false, false, false, false, false] rfl rfl (by kernel_rfl) (fun _ _ _ h => h) (Or.inl ⟨by rfl, ?_⟩) ?_ ?_
   rotate_left
   ·intro w'
    go_simp
    with_reducible rfl
   rotate_left
   ·simp only [Act.put, lS, lZ, lU, i64_w, i32_w]
    rfl
   refine take_ (i := 1) (N := some 84) (v := ?_) (a' := ?_) #[true, true, false, false, false, false, false, false, false, false, false] rfl rfl (by kernel_rfl) (fun _ _ _ h => h) (Or.inl ⟨by rfl, ?_⟩) hHeld ?_ ?_
   rotate_left
   ·rintro w' ⟨s0, s1, s2⟩
    go_simp
    with_reducible rfl
   rotate_left
   ·simp only [Act.put, lS, lZ, lU, i64_w, i32_w]
    rfl
   refine pure_ (i := 2) (N := some 85) (v := ?_) (a' := ?_) #[true, true, true, false, false, false, false, false, false, false, false] rfl rfl (by kernel_rfl) (fun _ _ _ h => h) (Or.inl ⟨by rfl, ?_⟩) ?_ ?_
   rotate_left
   ·intro w'
    go_simp
    with_reducible rfl
   rotate_left
   ·simp only [Act.put, lS, lZ, lU, i64_w, i32_w]
    rfl
   refine take_ (i := 3) (N := some 86) (v := ?_) (a' := ?_) #[true, true, true, true, false, false, false, false, false, false, false] rfl rfl (by kernel_rfl) (fun _ _ _ h => h) (Or.inl ⟨by rfl, ?_⟩) hHeld ?_ ?_
   rotate_left
   ·rintro w' ⟨s0, s1, s2⟩
    go_simp
    with_reducible rfl
   rotate_left
   ·simp only [Act.put, lS, lZ, lU, i64_w, i32_w]
    rfl
   refine pure_ (i := 4) (N := some 87) (v := ?_) (a' := ?_) #[true, true, true, true, true, false, false, false, false, false, false] rfl rfl (by kernel_rfl) (fun _ _ _ h => h) (Or.inl ⟨by rfl, ?_⟩) ?_ ?_
   rotate_left
   ·intro w'
    go_simp
    with_reducible rfl
   rotate_left
   ·simp only [Act.put, lS, lZ, lU, i64_w, i32_w]
    rfl
   refine take_ (i := 5) (N := some 88) (v := ?_) (a' := ?_) #[true, true, true, true, true, true, false, false, false, false, false] rfl rfl (by kernel_rfl) (fun _ _ _ h => h) (Or.inl ⟨by rfl, ?_⟩) hHeld ?_ ?_
   rotate_left
   ·rintro w' ⟨s0, s1, s2⟩
    go_simp
    with_reducible rfl
   rotate_left
   ·simp only [Act.put, lS, lZ, lU, i64_w, i32_w]
    rfl
   refine one_ (i := 6) (N := some 89) #[true, true, true, true, true, true, true, false, false, false, false] rfl rfl (by kernel_rfl) (by decide) (fun K hK => ?_)
   refine goes_ (f := 151) Tryz.func151 (by rfl) (by rfl) #[.slice SB sl.length sd, .int .i64 A] (by rfl) rfl rfl (by first | (go_simp; done) | (go_simp; rfl) | rfl) ?_
   refine (slot_calls SB sd sl A _ (Kd.C_below HS.out (by (with_reducible (repeat (first | exact Fr.refl _ _ | refine Fr.drew ?_ | refine Fr.drewN ?_ _ | refine Fr.alloc ?_ _ | refine Fr.setCell ?_ _ _ ?_))); exact HF5.out : Fr w V5.drew []).below)).mono ?_
   rintro e w8 ⟨rfl, ⟨nd, rfl⟩⟩
   refine ⟨_, rfl, hK.out _ _ ⟨blk_cell HD5.out 1, blk_cell HX5.out 2, blk_cell HY5.out 1⟩ (fun hHeld => ?_)⟩
   clear hK K
   refine norm_ (a' := ?_) ?_ ?_
   rotate_left
   ·show Act.put _ (some 89) _ = _
    simp only [Act.put, lS, lZ, lU, i64_w, i32_w]
    rfl
   refine one_ (i := 7) (N := some 90) #[true, true, true, true, true, true, true, true, false, false, false] rfl rfl (by kernel_rfl) (by decide) (fun K hK => ?_)
   refine value_ (w1 := ?_) (v := ?_) (by rfl) rfl ?_ ?_
   rotate_left 2
   ·go_simp
    constructor
    ·rfl
    ·rfl
   refine hK.out _ _ ⟨blk_cell (blk_alloc HD5.out _) 1, blk_cell (blk_alloc HX5.out _) 2, blk_cell (blk_alloc HY5.out _) 1⟩ (fun hHeld => ?_)
   clear hK K
   refine norm_ (a' := ?_) ?_ ?_
   rotate_left
   ·show Act.put _ (some 90) _ = _
    simp only [Act.put, lS, lZ, lU, i64_w, i32_w]
    rfl
   refine last_ (i := 8) (N := some 91) #[true, true, true, true, true, true, true, true, true, false, false] rfl rfl (by kernel_rfl) (by decide) (fun K hK => ?_)
   refine stepN 23 3 1 8 (.int .i64 0) (.tmp 84) (.tmp 90) rfl rfl Tryz.underlying23 info3 rfl (by decide) (.slice P4 m4 c4) (xs.take h).length ((xs.take h).map (Value.int .i64)) V5.heap.size [.int .i64 (slotL sl A)] rfl rfl (own_fr (w := V5) HI5.out (L := []) FQ (fun _ _ => List.not_mem_nil)) (blk_newN rfl) rfl (by simp [Value.oneCell']) hth (by omega) ?_
   intro v6 W6 hO6 hg6 hat6
   obtain ⟨P6, m6, c6, hv6⟩ := own_isSlice hO6
   subst hv6
   have HI6 := AsM (Iv.snoc hO6)
   have HG6 : Aside0 (Fr V5 W6 (Value.slice P4 m4 c4).ownBlock.toList) := ⟨Fr.grown (a := V5) (L := (Value.slice P4 m4 c4).ownBlock.toList) FQ hg6 (fun k hk => .inl (by simp [hk]))⟩
   have HO6 : Aside0 (∀ i, (Value.slice P6 m6 c6).ownBlock = some i → D < i) := ⟨fun i hi => by rcases hat6 with h9 | h9; exact HA5.out i (h9 ▸ hi); rw [h9] at hi; have := blk_lt HD5.out; simp at hi; omega⟩
   have HD6 := AsM (HG6.out.blk HD5.out HND.out)
   have HR6 := AsM (HG6.out.blk HR5.out HNR.out)
   have q6 := blk_cell HD6.out 1
   have zz6 := blk_frozen HD6.out 1
   clear hO6 hg6 hat6
   refine hK.out _ _ ?_
   clear hK K
   refine norm_ (a' := ?_) ?_ ?_
   rotate_left
   ·show Act.put _ (some 91) _ = _
    simp only [Act.put, lS, lZ, lU, i64_w, i32_w]
    rfl
   refine pure_ (i := 9) (N := some 92) (v := ?_) (a' := ?_) #[true, true, true, true, true, true, true, true, true, true, false] rfl rfl (by kernel_rfl) (fun _ _ _ h => h) (Or.inl ⟨by rfl, ?_⟩) ?_ ?_
   rotate_left
   ·intro w'
    go_simp
    with_reducible rfl
   rotate_left
   ·simp only [Act.put, lS, lZ, lU, i64_w, i32_w]
    rfl
   refine last_ (i := 10) (N := none) #[true, true, true, true, true, true, true, true, true, true, true] rfl rfl (by kernel_rfl) (by decide) (fun K hK => ?_)
   refine skip_ (w1 := ?_) (by rfl) rfl ?_ ?_
   rotate_left
   ·go_simp
    rfl
   refine hK.out _ _ ?_
   clear hK K
   refine done_ (by kernel_rfl) ?_
   go_wp2
   go_meet
   have hf6 : Fr w W6 [] := HF5.out.trans HG6.out (fun i hi => .inr (by have := HA5.out i (by simpa using hi); omega))
   exact mid_old rfl rfl hf6 ⟨_, HD6.out⟩ HI6.out HO6.out HR6.out HS.out (by omega)
  have n7 : (op == 7) = false := by simpa using c7
  by_cases c2 : op = 2 ∨ op = 25
  ·have hys : xs.take h ++ [2] = YS := by rw [← HYS.out, if_neg c6, if_neg c7, if_pos c2]
   subst hys
   clear HYS HKS HHL c6 c7
   rcases c2 with rfl | rfl
   ·go_wp2_with (first | (at_builtin; refine appN 23 3 1 8 (.int .i64 0) (.tmp 97) (.tmp 98) rfl rfl Tryz.underlying23 info3 rfl (by decide) (.slice P4 m4 c4) (xs.take h).length ((xs.take h).map (Value.int .i64)) V5.heap.size [.int .i64 2] rfl rfl (own_fr HI5.out (L := []) FQ (fun _ _ => List.not_mem_nil)) (blk_newN rfl) rfl (by simp [Value.oneCell']) hth (by omega) ?_; intro v6 W6 hO6 hg6 hat6; obtain ⟨P6, m6, c6, hv6⟩ := own_isSlice hO6; subst hv6; have HI6 := AsM (Iv.snoc hO6); have HG6 := AsM (Fr.grown (a := V5) (L := (Value.slice P4 m4 c4).ownBlock.toList) FQ hg6 (fun k hk => .inl (by simp [hk]))); have HO6 : Aside0 (∀ i, (Value.slice P6 m6 c6).ownBlock = some i → D < i) := ⟨fun i hi => by rcases hat6 with h9 | h9; exact HA5.out i (h9 ▸ hi); rw [h9] at hi; have := blk_lt HD5.out; simp at hi; omega⟩; have HD6 := AsM (HG6.out.blk HD5.out HND.out); have HX6 := AsM (HG6.out.blk HX5.out HNX.out); have HY6 := AsM (HG6.out.blk HY5.out HNY.out); have HR6 := AsM (HG6.out.blk HR5.out HNR.out); have hd6 := blk_lt HD6.out; have q6 := blk_cell HD6.out 1; have zz6 := blk_frozen HD6.out 1; have y61 := blk_cell HY6.out 1; have x62 := blk_cell HX6.out 2; clear hO6 hg6 hat6))
    go_meet
    have hf6 : Fr w W6 [] := HF5.out.trans HG6.out (fun i hi => .inr (by have := HA5.out i (by simpa using hi); omega))
    exact mid_old rfl rfl hf6 ⟨_, HD6.out⟩ HI6.out HO6.out HR6.out HS.out (by omega)
   ·go_wp2_with (first | (at_builtin; refine appN 23 3 1 8 (.int .i64 0) (.tmp 97) (.tmp 98) rfl rfl Tryz.underlying23 info3 rfl (by decide) (.slice P4 m4 c4) (xs.take h).length ((xs.take h).map (Value.int .i64)) V5.heap.size [.int .i64 2] rfl rfl (own_fr HI5.out (L := []) FQ (fun _ _ => List.not_mem_nil)) (blk_newN rfl) rfl (by simp [Value.oneCell']) hth (by omega) ?_; intro v6 W6 hO6 hg6 hat6; obtain ⟨P6, m6, c6, hv6⟩ := own_isSlice hO6; subst hv6; have HI6 := AsM (Iv.snoc hO6); have HG6 := AsM (Fr.grown (a := V5) (L := (Value.slice P4 m4 c4).ownBlock.toList) FQ hg6 (fun k hk => .inl (by simp [hk]))); have HO6 : Aside0 (∀ i, (Value.slice P6 m6 c6).ownBlock = some i → D < i) := ⟨fun i hi => by rcases hat6 with h9 | h9; exact HA5.out i (h9 ▸ hi); rw [h9] at hi; have := blk_lt HD5.out; simp at hi; omega⟩; have HD6 := AsM (HG6.out.blk HD5.out HND.out); have HX6 := AsM (HG6.out.blk HX5.out HNX.out); have HY6 := AsM (HG6.out.blk HY5.out HNY.out); have HR6 := AsM (HG6.out.blk HR5.out HNR.out); have hd6 := blk_lt HD6.out; have q6 := blk_cell HD6.out 1; have zz6 := blk_frozen HD6.out 1; have y61 := blk_cell HY6.out 1; have x62 := blk_cell HX6.out 2; clear hO6 hg6 hat6))
    go_meet
    have hf6 : Fr w W6 [] := HF5.out.trans HG6.out (fun i hi => .inr (by have := HA5.out i (by simpa using hi); omega))
    exact mid_old rfl rfl hf6 ⟨_, HD6.out⟩ HI6.out HO6.out HR6.out HS.out (by omega)
  have n2 : (op == 2) = false := by rw [beq_eq_false_iff_ne]; exact fun h => c2 (.inl h)
  have n25 : (op == 25) = false := by rw [beq_eq_false_iff_ne]; exact fun h => c2 (.inr h)
  have hys := HYS.out
  rw [if_neg c6, if_neg c7, if_neg c2] at hys
  have HYS2 := AsM hys
  clear hys HYS HKS HHL c6 c7 c2
  generalize kT op = tt at HE
  generalize kP op = u at HE HYS2
  go_upto_region 6 with (first | (go_at_call 153; (with_reducible refine (HE.out _ HF5.out).mono ?_); rintro e W9 ⟨rfl, hF9⟩; have HF9 := AsM hF9; clear hF9))
  refine name_ (fun V => Aside0 (Fr w V []) ∧ Aside0 (V.heap[w.heap.size]? = some (.cells #[.bool has, .slice SA xs.length sc, .slice SB sl.length sd] 175 (0, 0))) ∧ Aside0 (V.heap[w.heap.size + 1]? = some (.cells #[.int .i64 op, .int .i64 A, .int .i64 B] 113 (0, 0))) ∧ Aside0 (V.heap[w.heap.size + 1 + 1]? = some (.cells #[.bool false, .slice none 0 0, .slice none 0 0] 175 (0, 0))) ∧ Aside0 (V.heap[D]? = some (.cells #[.bool true, .slice P4 m4 c4, .slice SB sl.length sd] 175 (0, 0))) ∧ Aside0 (Iv V (.slice P4 m4 c4) (xs.take h))) ⟨⟨HF5.out.trans HF9.out (by simp)⟩, ⟨HF9.out.blk HX5.out (by simp)⟩, ⟨HF9.out.blk HY5.out (by simp)⟩, ⟨HF9.out.blk HR5.out (by simp)⟩, ⟨HF9.out.blk HD5.out (by simp)⟩, ⟨HI5.out.fr HF9.out (fun _ _ => List.not_mem_nil)⟩⟩ ?_
  clear HF9 HF5 HX5 HY5 HR5 HD5 HI5 y0 y1 x1 x2 d1 hdl
  rintro V5 ⟨HF5, HX5, HY5, HR5, HD5, HI5⟩
  have y0 := blk_cell HY5.out 0
  have d1 := blk_cell HD5.out 1
  have hdl := blk_lt HD5.out
  by_cases hu : 0 < u
  ·have nu : decide (0 < u) = true := by simpa using hu
   by_cases c19 : 19 ≤ op ∧ op ≤ 24
   ·have n19 : decide (19 ≤ op) = true := by simpa using c19.1
    have n24 : decide (op ≤ 24) = true := by simpa using c19.2
    have hys : xs.take h ++ [2] = YS := by rw [← HYS2.out, if_pos hu, if_pos c19]
    subst hys
    clear HYS2 hu c19
    go_wp2_with (first | (at_builtin; refine appN 23 3 1 8 (.int .i64 0) (.tmp 51) (.tmp 53) rfl rfl Tryz.underlying23 info3 rfl (by decide) (.slice P4 m4 c4) (xs.take h).length ((xs.take h).map (Value.int .i64)) V5.heap.size [.int .i64 2] rfl rfl (own_fr HI5.out (L := []) FQ (fun _ _ => List.not_mem_nil)) (blk_newN rfl) rfl (by simp [Value.oneCell']) hth (by omega) ?_; intro v6 W6 hO6 hg6 hat6; obtain ⟨P6, m6, c6, hv6⟩ := own_isSlice hO6; subst hv6; have HI6 := AsM (Iv.snoc hO6); have HG6 := AsM (Fr.grown (a := V5) (L := (Value.slice P4 m4 c4).ownBlock.toList) FQ hg6 (fun k hk => .inl (by simp [hk]))); have HO6 : Aside0 (∀ i, (Value.slice P6 m6 c6).ownBlock = some i → D < i) := ⟨fun i hi => by rcases hat6 with h9 | h9; exact HA5.out i (h9 ▸ hi); rw [h9] at hi; have := blk_lt HD5.out; simp at hi; omega⟩; have HD6 := AsM (HG6.out.blk HD5.out HND.out); have HX6 := AsM (HG6.out.blk HX5.out HNX.out); have HY6 := AsM (HG6.out.blk HY5.out HNY.out); have HR6 := AsM (HG6.out.blk HR5.out HNR.out); have hd6 := blk_lt HD6.out; have q6 := blk_cell HD6.out 1; have zz6 := blk_frozen HD6.out 1; have y61 := blk_cell HY6.out 1; have x62 := blk_cell HX6.out 2; clear hO6 hg6 hat6))
    go_meet
    have hf6 : Fr w W6 [] := HF5.out.trans HG6.out (fun i hi => .inr (by have := HA5.out i (by simpa using hi); omega))
    exact mid_old rfl rfl hf6 ⟨_, HD6.out⟩ HI6.out HO6.out HR6.out HS.out (by omega)
   ·have hys : xs.take h ++ [1] = YS := by rw [← HYS2.out, if_pos hu, if_neg c19]
    subst hys
    by_cases c20 : 19 ≤ op
    ·have n19 : decide (19 ≤ op) = true := by simpa using c20
     have n24 : decide (op ≤ 24) = false := by simp; omega
     clear HYS2 hu c19 c20
     go_wp2_with (first | (at_builtin; refine appN 23 3 1 8 (.int .i64 0) (.tmp 51) (.tmp 53) rfl rfl Tryz.underlying23 info3 rfl (by decide) (.slice P4 m4 c4) (xs.take h).length ((xs.take h).map (Value.int .i64)) V5.heap.size [.int .i64 1] rfl rfl (own_fr HI5.out (L := []) FQ (fun _ _ => List.not_mem_nil)) (blk_newN rfl) rfl (by simp [Value.oneCell']) hth (by omega) ?_; intro v6 W6 hO6 hg6 hat6; obtain ⟨P6, m6, c6, hv6⟩ := own_isSlice hO6; subst hv6; have HI6 := AsM (Iv.snoc hO6); have HG6 := AsM (Fr.grown (a := V5) (L := (Value.slice P4 m4 c4).ownBlock.toList) FQ hg6 (fun k hk => .inl (by simp [hk]))); have HO6 : Aside0 (∀ i, (Value.slice P6 m6 c6).ownBlock = some i → D < i) := ⟨fun i hi => by rcases hat6 with h9 | h9; exact HA5.out i (h9 ▸ hi); rw [h9] at hi; have := blk_lt HD5.out; simp at hi; omega⟩; have HD6 := AsM (HG6.out.blk HD5.out HND.out); have HX6 := AsM (HG6.out.blk HX5.out HNX.out); have HY6 := AsM (HG6.out.blk HY5.out HNY.out); have HR6 := AsM (HG6.out.blk HR5.out HNR.out); have hd6 := blk_lt HD6.out; have q6 := blk_cell HD6.out 1; have zz6 := blk_frozen HD6.out 1; have y61 := blk_cell HY6.out 1; have x62 := blk_cell HX6.out 2; clear hO6 hg6 hat6))
     go_meet
     have hf6 : Fr w W6 [] := HF5.out.trans HG6.out (fun i hi => .inr (by have := HA5.out i (by simpa using hi); omega))
     exact mid_old rfl rfl hf6 ⟨_, HD6.out⟩ HI6.out HO6.out HR6.out HS.out (by omega)
    ·have n19 : decide (19 ≤ op) = false := by simpa using c20
     clear HYS2 hu c19 c20
     go_wp2_with (first | (at_builtin; refine appN 23 3 1 8 (.int .i64 0) (.tmp 51) (.tmp 53) rfl rfl Tryz.underlying23 info3 rfl (by decide) (.slice P4 m4 c4) (xs.take h).length ((xs.take h).map (Value.int .i64)) V5.heap.size [.int .i64 1] rfl rfl (own_fr HI5.out (L := []) FQ (fun _ _ => List.not_mem_nil)) (blk_newN rfl) rfl (by simp [Value.oneCell']) hth (by omega) ?_; intro v6 W6 hO6 hg6 hat6; obtain ⟨P6, m6, c6, hv6⟩ := own_isSlice hO6; subst hv6; have HI6 := AsM (Iv.snoc hO6); have HG6 := AsM (Fr.grown (a := V5) (L := (Value.slice P4 m4 c4).ownBlock.toList) FQ hg6 (fun k hk => .inl (by simp [hk]))); have HO6 : Aside0 (∀ i, (Value.slice P6 m6 c6).ownBlock = some i → D < i) := ⟨fun i hi => by rcases hat6 with h9 | h9; exact HA5.out i (h9 ▸ hi); rw [h9] at hi; have := blk_lt HD5.out; simp at hi; omega⟩; have HD6 := AsM (HG6.out.blk HD5.out HND.out); have HX6 := AsM (HG6.out.blk HX5.out HNX.out); have HY6 := AsM (HG6.out.blk HY5.out HNY.out); have HR6 := AsM (HG6.out.blk HR5.out HNR.out); have hd6 := blk_lt HD6.out; have q6 := blk_cell HD6.out 1; have zz6 := blk_frozen HD6.out 1; have y61 := blk_cell HY6.out 1; have x62 := blk_cell HX6.out 2; clear hO6 hg6 hat6))
     go_meet
     have hf6 : Fr w W6 [] := HF5.out.trans HG6.out (fun i hi => .inr (by have := HA5.out i (by simpa using hi); omega))
     exact mid_old rfl rfl hf6 ⟨_, HD6.out⟩ HI6.out HO6.out HR6.out HS.out (by omega)
  ·have nu : decide (0 < u) = false := by simpa using hu
   have hys : xs.take h = YS := by rw [← HYS2.out, if_neg hu, List.append_nil]
   subst hys
   clear HYS2 hu
   go_wp2
   go_meet
   exact ⟨P4, m4, c4, SB, _, sd, HF5.out, HD5.out, HI5.out, HA5.out, rfl, Kd.C_below HS.out HF5.out.below, .inl ⟨rfl, HS.out⟩, HR5.out⟩
 case rest =>
 obtain ⟨P, m, c, B', n, d, hF, hD, hI, hO, hn, hC, hB, hR⟩ := hcut
 subst hn
 obtain ⟨d0, d1, d2⟩ := cc3 hD
 obtain ⟨r0, r1, r2⟩ := cc3 hR
 have z0 := blk_frozen hR 0
 have z1 := blk_frozen hR 1
 have z2 := blk_frozen hR 2
 have HQ := AsM (And.intro hF (And.intro hR (And.intro hI (And.intro hC hB))))
 have HO9 := AsM hO
 clear hF hD hI hC hB hR hO
 go_wp2
 refine bodyPost_ret (results_cell_row rfl _ _ (w.heap.size + 1 + 1) 175 #[.bool true, .slice P m c, .slice B' KS'.length d] (0, 0) _ rfl ?hb hup rfl rfl) rfl ?_
 case hb => exact blk_to (blk_set (blk_set (blk_set HQ.out.2.1 0 _) 1 _) 2 _) rfl
 obtain ⟨hF, hR, hI, hC, hB⟩ := HQ.out
 have hfr : ∀ L, w.heap.size + 1 + 1 ∈ L → Fr wc (((wc.setCell ⟨w.heap.size + 1 + 1, 0, none⟩ (.bool true)).setCell ⟨w.heap.size + 1 + 1, 1, none⟩ (.slice P m c)).setCell ⟨w.heap.size + 1 + 1, 2, none⟩ (.slice B' KS'.length d)) L := fun L hL => (((Fr.refl wc L).setCell _ _ (.inl hL)).setCell _ _ (.inl hL)).setCell _ _ (.inl hL)
 have hfW := hF.trans (hfr [w.heap.size + 1 + 1] (by simp)) (by intro i hi; simp at hi; omega)
 refine beh_end hfW (hI.fr (hfr [w.heap.size + 1 + 1] (by simp)) (fun i hi => by have := HO9.out i hi; simp; omega)) (fun i hi => by have := HO9.out i hi; omega) ?_ (hB.imp (fun h => h.1) (fun h ad e => by have := h ad e; omega))
 rcases hB with ⟨rfl, h9⟩ | hB
 ·exact Kd.C_below h9 hfW.below
 ·exact C_fr hC (hfr [w.heap.size + 1 + 1] (by simp)) (fun ad e => by have := hB ad e; simp; omega) K_kept
end Go.Proofs.YtpoehkacfmljcaaGreatDoor.H
