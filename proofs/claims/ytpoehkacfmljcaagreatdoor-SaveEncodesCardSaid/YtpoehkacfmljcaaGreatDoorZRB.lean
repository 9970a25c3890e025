/- The reference's lists: Takes, slot, without. -/
import Derived.Test.YtpoehkacfmljcaaGreatDoorZV
import Derived.Test.YtpoehkacfmljcaaGreatDoorZHD2
import Derived.Test.YtpoehkacfmljcaaGreatDoorZRA
import Derived.Test.YtpoehkacfmljcaaGreatDoorZKB
set_option maxHeartbeats 4000000
set_option maxRecDepth 100000
namespace Go.Proofs.YtpoehkacfmljcaaGreatDoor.H
open Go.RowKit Go.Proofs.YtpoehkacfmljcaaGreatDoorW.PrintWords Go.Proofs.YtpoehkacfmljcaaGreatDoorW.PrintLast Go.Proofs.YtpoehkacfmljcaaGreatDoorW.PrintMore
open Go.ChangeMaps (setBlock)
attribute [local go_sem] max2_int min2_int max_two min_two max_three min_three max_four min_four
set_option linter.unusedVariables false
set_option linter.unusedSimpArgs false
open Go.Proofs.YtpoehkacfmljcaaGreatDoor.M
theorem appN {ops : Array Oper} {rest : List Oper} {o : Oper} {a : Act} {Q : Exit → Act → World → Prop} {W : World} (T E sz bytes : Nat) (z : Value) (s x : Operand) (hg0 : o.guard = none) (ho : o.op = .call { callee := .builtin .append, args := #[s, x], argTypes := #[T, T] }) (ht : Tryz.prog.underlying T = some (.slice E)) (hi : (Tryz.prog.info? E).map (fun i => (i.zero, i.size, i.bytes)) = some (some z, sz, bytes)) (hz : z.cells.size = sz) (hsz : 0 < sz) (v : Value) (n : Nat) (vals : List Value) (g : Nat) (us : List Value)
  (hs : a.eval s = v) (hx : a.eval x = .slice (some ⟨g, 0, none⟩) 1 1) (HO : W.ownsRow 0 E sz v n vals) (hc : W.heap[g]? = some (.cells us.toArray E (0, 0))) (hul : us.length = sz) (hu : ∀ u ∈ us, u.oneCell' = true) (hl : n + 1 ≤ 1000000000) (hb : bytes ≤ 100)
  (h : ∀ v1 w1, w1.ownsRow 0 E sz v1 (n + 1) (vals ++ us) → W.grownBy w1 v.ownBlock → (v1.ownBlock = v.ownBlock ∨ v1.ownBlock = some W.heap.size) → wpList Tryz.prog ops Q rest (a.put o.dst v1) w1) : wpList Tryz.prog ops Q (o :: rest) a W := by
 obtain ⟨i0, hi0, hz0, hz1, hz2⟩ := info_parts hi
 have hbb : (n + 1) * bytes ≤ 140737488355328 := by
  have : (n + 1) * bytes ≤ 1000000000 * 100 := Nat.mul_le_mul hl hb
  omega
 obtain ⟨v1, w1, hr, h2, h3, _, h5⟩ := run_append_own_at (P := Tryz.prog) W 0 T o.type E i0 z sz bytes ht hi0 hz0 hz1 hz2 hz hsz v n vals HO ⟨g, 0, none⟩ 1 1 us (by omega)
  (by
  intro j u hj
  have := blk_cell hc j
  cases j with
  | zero => simpa [Addr.add, hj] using this
  | succ j => simpa [Addr.add, hj] using this) hu (by simp only [maxLen]; omega) hbb (Nat.zero_le _)
 exact wpl_val hg0 (exec_append ho hs hx hr) (h v1 w1 h2 h3 h5)
def SlPost {α : Type} (d : Kd α) (xs : List α) (w : World) (e : Ending) (w' : World) : Prop :=
 ∃ A c, e = .returned (.slice A xs.length c) ∧ xs.length ≤ c ∧ d.C w' A xs.length xs ∧ Fr w w' []
theorem C_of_own {α : Type} {d : Kd α} {w : World} {b n : Nat} {e : TypeId} {v : Value} {xs : List α} {vals : List Value} (h : w.ownsRow b e d.sz v n vals) (hR : Reps (d.K w) d.sz xs vals) (hn : xs.length = n) : ∃ A c, v = .slice A n c ∧ n ≤ c ∧ d.C w A n xs := by
 obtain ⟨A, c, rfl, hr⟩ := own_reads_row h hR hn
 refine ⟨A, c, rfl, ?_, hr⟩
 rcases h.2 with ⟨h1, h2⟩ | ⟨g, cap, cur, h1, _, _, h2, _⟩
 ·injection h1 with _ h1 h3; omega
 ·injection h1 with _ h1 h3; omega
def takesL (op : Int) : List Int := if op = 5 ∨ op = 28 then [1] else if op = 6 ∨ op = 8 then [0] else if op = 25 ∨ op = 27 then [2] else List.replicate (kT op) 1
theorem reps_int (w : World) (k : Nat) : Reps ((Kd.int .i64).K w) 1 (List.replicate k (1 : Int)) (List.replicate k (.int .i64 1)) := by
 induction k with
 | zero => exact Reps.none _ _
 | succ k ih => rw [List.replicate_succ', List.replicate_succ']; exact ih.snoc rfl rfl
theorem int_one (w : World) (A : Option Addr) (g : Nat) (x : Int) (h : w.heap[g]? = some (.cells #[.int .i64 x] 3 (0, 0))) : (Kd.int .i64).C w (some ⟨g, 0, none⟩) 1 [x] :=
 ⟨rfl, by decide, fun _ => ⟨⟨g, 0, none⟩, rfl, fun j p hj => by
  obtain rfl : j = 0 := by cases j with | zero => rfl | succ j => simp at hj
  obtain rfl : x = p := by simpa using hj
  refine ⟨[.int .i64 x], rfl, rfl, fun i u hu => ?_⟩
  obtain rfl : i = 0 := by cases i with | zero => rfl | succ i => simp at hu
  obtain rfl : Value.int .i64 x = u := by simpa using hu
  exact blk_cell h 0⟩⟩
theorem takes_one (op x : Int) (hop : (x = 1 ∧ (op = 5 ∨ op = 28)) ∨ (x = 0 ∧ (op = 6 ∨ op = 8)) ∨ (x = 2 ∧ (op = 25 ∨ op = 27))) (w : World) : Calls Tryz.prog 150 #[.int .i64 op] w (SlPost (Kd.int .i64) [x] w) := by
 rcases hop with ⟨rfl, rfl | rfl⟩ | ⟨rfl, rfl | rfl⟩ | ⟨rfl, rfl | rfl⟩
 all_goals (
  go_enter Tryz.func150, Tryz.ntmps150
  go_wp2
  go_ret
  exact ⟨_, _, rfl, by decide, int_one _ none _ _ (blk_newN rfl), FQ⟩)
theorem takes_many (op : Int) (h0 : 0 ≤ op) (h1 : op < 29) (hop : ¬ (op = 5 ∨ op = 28 ∨ op = 6 ∨ op = 8 ∨ op = 25 ∨ op = 27)) (w : World) (G : TabW w) : Calls Tryz.prog 150 #[.int .i64 op] w (SlPost (Kd.int .i64) (List.replicate (kT op) 1) w) := by
 have HE := AsM (fun W (hf : Fr w W []) => rEffect_calls op h0 h1 W (G.fr0 hf))
 have e1 : (op == 5) = false := by rw [beq_eq_false_iff_ne]; omega
 have e2 : (op == 28) = false := by rw [beq_eq_false_iff_ne]; omega
 have e3 : (op == 6) = false := by rw [beq_eq_false_iff_ne]; omega
 have e4 : (op == 8) = false := by rw [beq_eq_false_iff_ne]; omega
 have e5 : (op == 25) = false := by rw [beq_eq_false_iff_ne]; omega
 have e6 : (op == 27) = false := by rw [beq_eq_false_iff_ne]; omega
 obtain ⟨_, _, hk3, _⟩ := kTP op.toNat (by omega)
 rw [show ((op.toNat : Nat) : Int) = op by omega] at hk3
 clear h0 h1 hop G
 generalize kT op = n at HE hk3 ⊢
 generalize kP op = u at HE
 go_enter Tryz.func150, Tryz.ntmps150
 go_wp2_with (first | (go_at_call 153; (with_reducible refine (HE.out _ ?_).mono ?_); (next => exact FQ); rintro e W1 ⟨rfl, hF1⟩; have HF1 : Aside0 (Fr w W1 []) := ⟨Fr.trans (M := []) FQ hF1 (by simp)⟩; clear hF1))
 go_loopg [3, 7] n (fun kq s3 s7 wr => ∃ (k : Nat) (A : Option Addr) (m c : Nat), s3 = .slice A m c ∧ s7 = .int .i64 k ∧ k ≤ n ∧ Aside0 (n - k ≤ kq) ∧ Aside0 (Fr w wr []) ∧ Aside0 (wr.ownsRow 0 3 1 (.slice A m c) k (List.replicate k (.int .i64 1))) ∧ Aside0 (∀ i, (Value.slice A m c).ownBlock = some i → w.heap.size ≤ i))
 case atStart => exact ⟨0, none, 0, 0, rfl, rfl, Nat.zero_le _, ⟨Nat.le_refl _⟩, ⟨FX HF1.out⟩, ⟨own_nil _ _ _ _⟩, ⟨fun i h => by simp [Value.ownBlock] at h⟩⟩
 case round =>
  obtain ⟨k, A, m, c, rfl, rfl, hk, HM, HFW, HO, HOB⟩ := hrel
  by_cases hkl : k < n
  ·have n3 : decide (k < n) = true := by simpa using hkl
   go_wp2_with (first | (at_builtin; refine appN 23 3 1 8 (.int .i64 0) (.tmp 32) (.tmp 33) rfl rfl Tryz.underlying23 info3 rfl (by decide) (.slice A m c) k (List.replicate k (.int .i64 1)) wr.heap.size [.int .i64 1] rfl rfl (own_fr HO.out (L := []) FQ (fun _ _ => List.not_mem_nil)) (blk_newN rfl) rfl (by simp [Value.oneCell']) (by omega) (by omega) ?_; intro v1 w1 hO1 hg1 hat1; obtain ⟨A1, m1, c1, hv1⟩ := own_isSlice hO1; subst hv1; have HO1 := AsM hO1; have HG1 := AsM (Fr.grown (a := wr) (L := (Value.slice A m c).ownBlock.toList) FQ hg1 (fun k hk => .inl (by simp [hk]))); have HAT := AsM hat1; clear hO1 hg1 hat1))
   go_roundg (n - (k + 1))
   case measure => have := HM.out; omega
   case rel =>
    refine ⟨k + 1, A1, m1, c1, rfl, by go_num, by omega, ⟨Nat.le_refl _⟩, ⟨HFW.out.trans HG1.out (fun i hi => .inr (HOB.out i (by simpa using hi)))⟩, ⟨by rw [List.replicate_succ']; exact HO1.out⟩, ⟨fun i hi => ?_⟩⟩
    rcases HAT.out with h9 | h9
    ·exact HOB.out i (h9 ▸ hi)
    ·rw [h9] at hi
     have := HFW.out.size
     simp at hi
     omega
  ·obtain rfl : k = n := by omega
   have n3 : decide (k < k) = false := by simp
   go_wp2
   go_ret
   obtain ⟨A1, c1, hv, hc, hC⟩ := C_of_own (d := Kd.int .i64) HO.out (reps_int wr k) (by simp)
   injection hv with h1 h2 h3
   subst h1 h2 h3
   exact ⟨A, c, by simp, by simpa using hc, by simpa using hC, HFW.out⟩
theorem takes_calls (op : Int) (h0 : 0 ≤ op) (h1 : op < 29) (w : World) (G : TabW w) : Calls Tryz.prog 150 #[.int .i64 op] w (SlPost (Kd.int .i64) (takesL op) w) := by
 unfold takesL
 by_cases h5 : op = 5 ∨ op = 28
 ·rw [if_pos h5]; exact takes_one op 1 (.inl ⟨rfl, h5⟩) w
 rw [if_neg h5]
 by_cases h6 : op = 6 ∨ op = 8
 ·rw [if_pos h6]; exact takes_one op 0 (.inr (.inl ⟨rfl, h6⟩)) w
 rw [if_neg h6]
 by_cases h7 : op = 25 ∨ op = 27
 ·rw [if_pos h7]; exact takes_one op 2 (.inr (.inr ⟨rfl, h7⟩)) w
 rw [if_neg h7]
 exact takes_many op h0 h1 (by omega) w G
abbrev KS : Type := S236
theorem kept_at {w : World} {A : Option Addr} {n : Nat} {xs : List KS} (h : Kd.C k236 w A n xs) (k : Nat) (hk : k < n) : ∃ ad, A = some ad ∧ w.cell? (ad.add (k * 2)) = some (.int .i64 (xs.getD k z236).f0) ∧ w.cell? ⟨(ad.add (k * 2)).block, (ad.add (k * 2)).off + 1, none⟩ = some (.int .i64 (xs.getD k z236).f1) := by
 obtain ⟨ad, e, h0, h1⟩ := at_T236 h (k : Int) (by omega) (by omega)
 simp only [rd_T236, Int.toNat_natCast] at h0 h1
 exact ⟨ad, e, h0, h1⟩
def slotL : List KS → Int → Int
 | [], _ => 0
 | x :: l, n => if x.f0 = n then x.f1 else slotL l n
theorem slot_on {l : List KS} {n : Int} {k : Nat} {x : KS} (hx : l[k]? = some x) (hn : x.f0 ≠ n) (h : slotL l n = slotL (l.drop k) n) : slotL l n = slotL (l.drop (k + 1)) n := by
 rw [h, List.drop_eq_getElem_cons (List.getElem?_eq_some_iff.1 hx).1]
 rw [(List.getElem?_eq_some_iff.1 hx).2]
 simp only [slotL]
 rw [if_neg hn]
theorem slot_hit {l : List KS} {n : Int} {k : Nat} {x : KS} (hx : l[k]? = some x) (hn : x.f0 = n) (h : slotL l n = slotL (l.drop k) n) : slotL l n = x.f1 := by
 rw [h, List.drop_eq_getElem_cons (List.getElem?_eq_some_iff.1 hx).1]
 rw [(List.getElem?_eq_some_iff.1 hx).2]
 simp only [slotL]
 rw [if_pos hn]
theorem slot_calls (A : Option Addr) (c : Nat) (l : List KS) (n : Int) (w : World) (hC : Kd.C k236 w A l.length l) : Calls Tryz.prog 151 #[.slice A l.length c, .int .i64 n] w fun e w' => e = .returned (.int .i64 (slotL l n)) ∧ Drawn0 w w' := by
 obtain ⟨R, hR⟩ : ∃ x, slotL l n = x := ⟨_, rfl⟩
 have HR := AsM hR
 have HC := AsM hC
 have hl63 := Kd.C_max hC
 rw [hR]
 clear hC hR
 go_enter Tryz.func151, Tryz.ntmps151
 go_wp2
 go_loopg [5] l.length (fun kq s5 wr => ∃ k : Nat, s5 = .int .i64 k ∧ k ≤ l.length ∧ Aside0 (l.length - k ≤ kq) ∧ Drawn0 w wr ∧ Aside0 (slotL l n = slotL (l.drop k) n))
 case atStart => exact ⟨0, rfl, Nat.zero_le _, ⟨Nat.le_refl _⟩, DQ, ⟨by rw [List.drop_zero]⟩⟩
 case round =>
  obtain ⟨k, rfl, hk, HM, ⟨nk, rfl⟩, HA⟩ := hrel
  by_cases hkl : k < l.length
  ·have n3 : decide (k < l.length) = true := by simpa using hkl
   obtain ⟨ad, rfl, h0, h1⟩ := kept_at HC.out k hkl
   obtain ⟨x, hx⟩ : ∃ x, l.getD k z236 = x := ⟨_, rfl⟩
   rw [hx] at h0 h1
   have hxm : l[k]? = some x := by rw [List.getD_eq_getElem?_getD, List.getElem?_eq_getElem hkl] at hx; rw [List.getElem?_eq_getElem hkl]; simpa using hx
   have HX := AsM hxm
   clear hx hxm
   by_cases hn : x.f0 = n
   ·have n4 : (x.f0 == n) = true := by simpa using hn
    have HN := AsM hn
    clear hn
    go_wp2
    go_ret
    exact ⟨by rw [← HR.out, slot_hit HX.out HN.out HA.out]; rfl, DQ⟩
   ·have n4 : (x.f0 == n) = false := by simpa using hn
    have HN := AsM hn
    clear hn
    go_wp2
    go_roundg (l.length - (k + 1))
    case measure => have := HM.out; omega
    case rel => exact ⟨k + 1, by go_num, by omega, ⟨Nat.le_refl _⟩, DQ, ⟨slot_on HX.out HN.out HA.out⟩⟩
  ·obtain rfl : k = l.length := by omega
   have n3 : decide (l.length < l.length) = false := by simp
   go_wp2
   go_ret
   exact ⟨by rw [← HR.out, HA.out, List.drop_length]; rfl, DQ⟩
def KR (x : KS) (cs : List Value) : Prop := cs = [.int .i64 x.f0, .int .i64 x.f1]
def OwPost (xs : List KS) (w : World) (e : Ending) (w' : World) : Prop :=
 ∃ A c vals, e = .returned (.slice A xs.length c) ∧ w'.ownsRow 0 236 2 (.slice A xs.length c) xs.length vals ∧ Reps KR 2 xs vals ∧ (∀ i, (Value.slice A xs.length c).ownBlock = some i → w.heap.size ≤ i) ∧ Fr w w' []
theorem reps_kept {xs : List KS} {vals : List Value} (h : Reps KR 2 xs vals) (w : World) : Reps (k236.K w) 2 xs vals := h.imp_ (fun p c hc => by rw [show c = _ from hc]; exact k236_mk w p)
def withoutL (l : List KS) (n : Int) : List KS := l.filter (fun x => !(decide (x.f0 = n)))
theorem without_snoc (l : List KS) (n : Int) {k : Nat} {x : KS} (hx : l[k]? = some x) : withoutL (l.take (k + 1)) n = withoutL (l.take k) n ++ if x.f0 = n then [] else [x] := by
 unfold withoutL
 rw [List.take_add_one, hx, List.filter_append]
 by_cases h : x.f0 = n <;> simp [h]
theorem without_len (l : List KS) (n : Int) (k : Nat) : (withoutL (l.take k) n).length ≤ k := Nat.le_trans (List.length_filter_le _ _) (by rw [List.length_take]; omega)
theorem without_calls (A : Option Addr) (c : Nat) (l : List KS) (n : Int) (w : World) (hC : Kd.C k236 w A l.length l) (hl : l.length ≤ 100000000) : Calls Tryz.prog 152 #[.slice A l.length c, .int .i64 n] w (OwPost (withoutL l n) w) := by
 obtain ⟨R, hR⟩ : ∃ x, withoutL l n = x := ⟨_, rfl⟩
 rw [hR]
 have HR := AsM hR
 have HC := AsM hC
 clear hC hR
 have hup := Tryz.underlying236
 go_enter Tryz.func152, Tryz.ntmps152
 go_wp2
 go_loopg [5, 6] l.length (fun kq s5 s6 wr => ∃ (k : Nat) (Av : Option Addr) (m cv : Nat) (vals : List Value), s5 = .slice Av m cv ∧ s6 = .int .i64 k ∧ k ≤ l.length ∧ Aside0 (l.length - k ≤ kq) ∧ Aside0 (Fr w wr []) ∧ Aside0 (wr.ownsRow 0 236 2 (.slice Av m cv) (withoutL (l.take k) n).length vals) ∧ Aside0 (Reps KR 2 (withoutL (l.take k) n) vals) ∧ Aside0 (∀ i, (Value.slice Av m cv).ownBlock = some i → w.heap.size ≤ i))
 case atStart => exact ⟨0, none, 0, 0, [], rfl, rfl, Nat.zero_le _, ⟨Nat.le_refl _⟩, ⟨FQ⟩, ⟨own_nil _ _ _ _⟩, ⟨Reps.none _ _⟩, ⟨fun i h => by simp [Value.ownBlock] at h⟩⟩
 case round =>
  obtain ⟨k, Av, m, cv, vals, rfl, rfl, hk, HM, HFW, HO, HRP, HOB⟩ := hrel
  by_cases hkl : k < l.length
  ·have n3 : decide (k < l.length) = true := by simpa using hkl
   obtain ⟨ad, rfl, h0, h1⟩ := kept_at (Kd.C_below HC.out HFW.out.below) k hkl
   obtain ⟨x, hx⟩ : ∃ x, l.getD k z236 = x := ⟨_, rfl⟩
   rw [hx] at h0 h1
   have hxm : l[k]? = some x := by rw [List.getD_eq_getElem?_getD, List.getElem?_eq_getElem hkl] at hx; rw [List.getElem?_eq_getElem hkl]; simpa using hx
   have HS := AsM (without_snoc l n hxm)
   have HL := AsM (without_len l n k)
   clear hx hxm
   by_cases hn : x.f0 = n
   ·have n4 : (x.f0 != n) = false := by simpa using hn
    have HN := AsM hn
    clear hn
    go_wp2
    go_roundg (l.length - (k + 1))
    case measure => have := HM.out; omega
    case rel =>
     have hs := HS.out
     rw [if_pos HN.out, List.append_nil] at hs
     exact ⟨k + 1, Av, m, cv, vals, rfl, by go_num, by omega, ⟨Nat.le_refl _⟩, ⟨FX HFW.out⟩, ⟨by rw [hs]; exact own_fr HO.out (L := []) FQ (fun _ _ => List.not_mem_nil)⟩, ⟨by rw [hs]; exact HRP.out⟩, HOB⟩
   ·have n4 : (x.f0 != n) = true := by simpa using hn
    have HN := AsM hn
    have hwl : (withoutL (l.take k) n).length + 1 ≤ 1000000000 := by have := HL.out; omega
    obtain ⟨nn, hnn⟩ : ∃ nn, (withoutL (l.take k) n).length = nn := ⟨_, rfl⟩
    have HO' := AsM (hnn ▸ HO.out)
    rw [hnn] at hwl
    have HNN := AsM hnn
    clear hn hnn
    go_wp2_with (first | (at_builtin; refine appN 173 236 2 16 (.agg #[.int .i64 0, .int .i64 0]) (.tmp 20) (.tmp 25) rfl rfl Tryz.underlying173 info236 rfl (by decide) (.slice Av m cv) nn vals wr.heap.size [.int .i64 x.f0, .int .i64 x.f1] rfl rfl (own_fr HO'.out (L := []) FQ (fun _ _ => List.not_mem_nil)) (blk_newN rfl) rfl (by simp [Value.oneCell']) hwl (by omega) ?_; intro v1 w1 hO1 hg1 hat1; obtain ⟨A1, m1, c1, hv1⟩ := own_isSlice hO1; subst hv1; have HO1 := AsM hO1; have HG1 := AsM (Fr.grown (a := wr) (L := (Value.slice Av m cv).ownBlock.toList) FQ hg1 (fun k hk => .inl (by simp [hk]))); have HAT := AsM hat1; clear hO1 hg1 hat1))
    go_roundg (l.length - (k + 1))
    case measure => have := HM.out; omega
    case rel =>
     have hs := HS.out
     rw [if_neg HN.out] at hs
     refine ⟨k + 1, A1, m1, c1, _, rfl, by go_num, by omega, ⟨Nat.le_refl _⟩, ⟨HFW.out.trans HG1.out (fun i hi => .inr (HOB.out i (by simpa using hi)))⟩, ⟨by rw [hs, List.length_append, HNN.out]; exact HO1.out⟩, ⟨by rw [hs]; exact HRP.out.snoc rfl rfl⟩, ⟨fun i hi => ?_⟩⟩
     rcases HAT.out with h9 | h9
     ·exact HOB.out i (h9 ▸ hi)
     ·rw [h9] at hi
      have := HFW.out.size
      simp at hi
      omega
  ·obtain rfl : k = l.length := by omega
   have n3 : decide (l.length < l.length) = false := by simp
   have ho := HO.out
   have hrp := HRP.out
   rw [List.take_length, HR.out] at ho hrp
   have HO2 := AsM ho
   have HRP2 := AsM hrp
   clear ho hrp
   go_wp2
   go_ret
   obtain ⟨A1, c1, hv, _⟩ := own_reads_row HO2.out HRP2.out rfl
   injection hv with h1 h2 h3
   subst h1 h2 h3
   exact ⟨_, _, vals, rfl, HO2.out, HRP2.out, HOB.out, HFW.out⟩
def badAt (t xs : List Int) (k : Nat) : Bool := !(decide (t.getD k 0 = 0)) && !(decide (xs.getD (xs.length - t.length + k) 0 = t.getD k 0))
def sortBad (t xs : List Int) : Bool := (List.range t.length).any (badAt t xs)
def wrongP (has : Bool) (xs : List Int) (sl : List KS) (op A B day : Int) (ak n : Nat) : Int :=
 if has = false then 146 else
 if xs.length < (takesL op).length ∨ (op = 0 ∧ 0 < xs.length) then 142 else
 if sortBad (takesL op) xs = true then 143 else
 if op = 7 ∧ slotL sl A = 0 then 144 else
 if op = 3 ∧ day < B then 145 else
 if (op = 26 ∨ op = 27) ∧ (n : Int) ≤ ak + 1 + A then 141 else 0
theorem takes_len (op : Int) (h0 : 0 ≤ op) (h1 : op < 29) : (takesL op).length ≤ 3 := by
 obtain ⟨_, _, hk3, _⟩ := kTP op.toNat (by omega)
 rw [show ((op.toNat : Nat) : Int) = op by omega] at hk3
 unfold takesL
 repeat' split
 all_goals simp
 all_goals omega
theorem wrong_calls (has : Bool) (SA : Option Addr) (sc : Nat) (xs : List Int) (SB : Option Addr) (sd : Nat) (sl : List KS) (op A B day : Int) (ak n : Nat) (w : World) (h0 : 0 ≤ op) (h1 : op < 29) (hA0 : 0 ≤ A) (hA1 : A ≤ 1000000) (hak : ak ≤ 1000000) (hxl : xs.length ≤ 1000000000)
  (hC : Kd.C (Kd.int .i64) w SA xs.length xs) (hS : Kd.C k236 w SB sl.length sl) (G : TabW w) :
  Calls Tryz.prog 125 #[.agg #[.bool has, .slice SA xs.length sc, .slice SB sl.length sd], .agg #[.int .i64 op, .int .i64 A, .int .i64 B], .int .i64 day, .int .i64 ak, .int .i64 n] w (SvPost (wrongP has xs sl op A B day ak n) w) := by
 obtain ⟨R, hR⟩ : ∃ x, wrongP has xs sl op A B day ak n = x := ⟨_, rfl⟩
 rw [hR]
 unfold wrongP at hR
 have hup := Tryz.underlying175
 have hui := Tryz.underlying113
 have HC := AsM hC
 have HS := AsM hS
 cases has
 case false =>
  rw [if_pos rfl] at hR
  subst hR
  clear hC hS G
  go_enter Tryz.func125, Tryz.ntmps125
  go_wp2
  go_ret
  exact ⟨rfl, FQ⟩
 case true =>
 rw [if_neg (by decide)] at hR
 have HT := AsM (fun W (hf : Fr w W []) => takes_calls op h0 h1 W (G.fr0 hf))
 have htl := takes_len op h0 h1
 generalize takesL op = t at hR HT htl
 have HR := AsM hR
 clear hR hC hS G
 go_enter Tryz.func125, Tryz.ntmps125
 go_upto_region 4 with (first | (go_at_call 150; (with_reducible refine (HT.out _ ?_).mono ?_); (next => exact FQ); rintro e W1 ⟨TA, tc, rfl, htc, hT1, hF1⟩; have HX1 := AsM (hF1.blk (g := w.heap.size) (blk_alloc (blk_newN rfl) _) (by simp)); have HY1 := AsM (hF1.blk (g := w.heap.size + 1) (blk_newN (by simp)) (by simp)); have HF1 : Aside0 (Fr w W1 []) := ⟨Fr.trans (M := []) FQ hF1 (by simp)⟩; have HT1 := AsM hT1; clear hF1 hT1))
 have x1 := blk_cell HX1.out 1
 have x2 := blk_cell HX1.out 2
 obtain ⟨y0, y1, y2⟩ := cc3 HY1.out
 have hyl := blk_lt HY1.out
 by_cases c1 : xs.length < t.length
 ·have n1 : decide (xs.length < t.length) = true := by simpa using c1
  obtain rfl : 142 = R := by rw [← HR.out, if_pos (.inl c1)]
  clear c1
  go_wp2
  go_ret
  exact ⟨rfl, HF1.out⟩
 have n1 : decide (xs.length < t.length) = false := by simpa using c1
 by_cases c2 : op = 0 ∧ 0 < xs.length
 ·obtain ⟨c2, c3⟩ := c2
  subst c2
  have n2 : decide (0 < xs.length) = true := by simpa using c3
  obtain rfl : 142 = R := by rw [← HR.out, if_pos (.inr ⟨rfl, c3⟩)]
  go_wp2
  go_ret
  exact ⟨rfl, HF1.out⟩
 have hr1 := HR.out
 rw [if_neg (fun h => h.elim c1 c2)] at hr1
 have HR1 := AsM hr1
 clear hr1 HR
 go_cut [35] (fun b wx => b = .bool false ∧ wx = W1)
 case first =>
  by_cases c3 : op = 0
  ·subst c3
   have n2 : decide (0 < xs.length) = false := by simpa using c2
   go_wp2
   go_meet
   exact ⟨rfl, rfl⟩
  ·have n2 : (op == 0) = false := by simpa using c3
   clear c2
   go_wp2
   go_meet
   exact ⟨rfl, rfl⟩
 case rest =>
 obtain ⟨rfl, rfl⟩ := hcut
 have HC1 := AsM c1
 clear c1 c2
 go_wp2
 go_loopg [12] t.length (fun kq s12 wr => ∃ k : Nat, s12 = .int .i64 k ∧ k ≤ t.length ∧ Aside0 (t.length - k ≤ kq) ∧ Drawn0 wc wr ∧ Aside0 ((List.range k).any (badAt t xs) = false))
 case atStart => exact ⟨0, rfl, Nat.zero_le _, ⟨Nat.le_refl _⟩, DQ, ⟨rfl⟩⟩
 case round =>
  obtain ⟨k, rfl, hk, HM, ⟨nk, rfl⟩, HA⟩ := hrel
  by_cases hkl : k < t.length
  ·have n3 : decide (k < t.length) = true := by simpa using hkl
   have hct := HC1.out
   obtain ⟨adt, rfl, h2⟩ := iat_at HT1.out k hkl
   obtain ⟨jx, hjx⟩ : ∃ jx, xs.length - t.length + k = jx := ⟨_, rfl⟩
   have hjl : jx < xs.length := by omega
   obtain ⟨adx, rfl, h3⟩ := iat_at (Kd.C_below HC.out HF1.out.below) jx hjl
   obtain ⟨tk, htk⟩ : ∃ x, t.getD k 0 = x := ⟨_, rfl⟩
   obtain ⟨xk, hxk⟩ : ∃ x, xs.getD jx 0 = x := ⟨_, rfl⟩
   have hbad : badAt t xs k = (!(decide (tk = 0)) && !(decide (xk = tk))) := by unfold badAt; rw [hjx, htk, hxk]
   rw [htk] at h2
   rw [hxk] at h3
   have e1 : IntKind.i64.wrap ((xs.length : Int) - (t.length : Int)) = (xs.length : Int) - (t.length : Int) := by rw [i64_w]; unfold wrap64; omega
   have e2 : IntKind.i64.wrap ((xs.length : Int) - (t.length : Int) + (k : Int)) = (jx : Int) := by rw [i64_w]; unfold wrap64; omega
   have HBAD := AsM hbad
   clear hjx htk hxk hbad hct
   by_cases ht0 : tk = 0
   ·have n4 : (tk != 0) = false := by simpa using ht0
    have HT0 := AsM ht0
    clear ht0
    go_upto_region 9 with fail
    go_quiet (fail)
    go_wp2
    go_roundg (t.length - (k + 1))
    case measure => have := HM.out; omega
    case rel => exact ⟨k + 1, by go_num, by omega, ⟨Nat.le_refl _⟩, DQ, ⟨by rw [List.range_succ, List.any_append, HA.out]; simp [HBAD.out, HT0.out]⟩⟩
   ·have n4 : (tk != 0) = true := by simpa using ht0
    by_cases hxt : xk = tk
    ·have n5 : (xk != tk) = false := by simpa using hxt
     have HXT := AsM hxt
     clear ht0 hxt
     go_upto_region 9 with fail
     go_quiet (fail)
     go_wp2
     go_roundg (t.length - (k + 1))
     case measure => have := HM.out; omega
     case rel => exact ⟨k + 1, by go_num, by omega, ⟨Nat.le_refl _⟩, DQ, ⟨by rw [List.range_succ, List.any_append, HA.out]; simp [HBAD.out, HXT.out]⟩⟩
    ·have n5 : (xk != tk) = true := by simpa using hxt
     obtain rfl : 143 = R := by
      rw [← HR1.out, if_pos]
      unfold sortBad
      exact List.any_eq_true.2 ⟨k, List.mem_range.2 hkl, by rw [HBAD.out]; simp [ht0, hxt]⟩
     clear ht0 hxt
     go_upto_region 9 with fail
     go_quiet (fail)
     go_wp2
     go_ret
     exact ⟨rfl, FX HF1.out⟩
  ·obtain rfl : k = t.length := by omega
   have n3 : decide (t.length < t.length) = false := by simp
   have hr2 := HR1.out
   have hsb := HA.out
   rw [if_neg (by unfold sortBad; rw [hsb]; decide)] at hr2
   have HSL : Aside0 (Calls Tryz.prog 151 #[.slice SB sl.length sd, .int .i64 A] (wc.drewN nk) fun e w' => e = .returned (.int .i64 (slotL sl A)) ∧ Drawn0 (wc.drewN nk) w') := ⟨slot_calls SB sd sl A _ (Kd.C_below HS.out (Fr.drewN HF1.out nk).below)⟩
   obtain ⟨sv, hsv⟩ : ∃ x, slotL sl A = x := ⟨_, rfl⟩
   rw [hsv] at hr2
   have HSL := AsM (hsv ▸ HSL.out)
   have HR2 := AsM hr2
   clear hr2 hsb hsv
   go_upto_region 11 with fail
   by_cases c7 : op = 7
   ·subst c7
    by_cases c8 : sv = 0
    ·have n8 : (sv == 0) = true := by simpa using c8
     obtain rfl : 144 = R := by rw [← HR2.out]; simp [c8]
     clear c8
     go_wp2_with (first | (go_at_call 151; (refine (HSL.out).mono ?_); rintro e w' ⟨rfl, ⟨nd, rfl⟩⟩))
     go_ret
     exact ⟨rfl, FX HF1.out⟩
    ·have n8 : (sv == 0) = false := by simpa using c8
     obtain rfl : 0 = R := by rw [← HR2.out]; simp [c8]
     clear c8
     go_wp2_with (first | (go_at_call 151; (refine (HSL.out).mono ?_); rintro e w' ⟨rfl, ⟨nd, rfl⟩⟩))
     go_ret
     exact ⟨rfl, FX HF1.out⟩
   have n7 : (op == 7) = false := by simpa using c7
   by_cases c3 : op = 3
   ·subst c3
    by_cases c8 : day < B
    ·have n8 : decide (day < B) = true := by simpa using c8
     obtain rfl : 145 = R := by rw [← HR2.out]; simp [c8]
     clear c7
     go_wp2_with (first | (go_at_call 151; (refine (HSL.out).mono ?_); rintro e w' ⟨rfl, ⟨nd, rfl⟩⟩))
     go_ret
     exact ⟨rfl, FX HF1.out⟩
    ·have n8 : decide (day < B) = false := by simpa using c8
     obtain rfl : 0 = R := by rw [← HR2.out]; simp [c8]
     clear c7 c8
     go_wp2_with (first | (go_at_call 151; (refine (HSL.out).mono ?_); rintro e w' ⟨rfl, ⟨nd, rfl⟩⟩))
     go_ret
     exact ⟨rfl, FX HF1.out⟩
   have n6 : (op == 3) = false := by simpa using c3
   have hm : IntKind.i64.wrap ((ak : Int) + 1) = (ak : Int) + 1 := by rw [i64_w]; unfold wrap64; omega
   by_cases c9 : op = 26 ∨ op = 27
   ·by_cases c8 : (n : Int) ≤ ak + 1 + A
    ·have n8 : decide ((n : Int) ≤ (ak : Int) + 1 + A) = true := by simpa using c8
     obtain rfl : 141 = R := by rw [← HR2.out, if_neg (fun h => c7 h.1), if_neg (fun h => c3 h.1), if_pos ⟨c9, c8⟩]
     clear c7 c3
     rcases c9 with rfl | rfl
     ·go_wp2_with (first | (go_at_call 151; (refine (HSL.out).mono ?_); rintro e w' ⟨rfl, ⟨nd, rfl⟩⟩))
      go_ret
      exact ⟨rfl, FX HF1.out⟩
     ·go_wp2_with (first | (go_at_call 151; (refine (HSL.out).mono ?_); rintro e w' ⟨rfl, ⟨nd, rfl⟩⟩))
      go_ret
      exact ⟨rfl, FX HF1.out⟩
    ·have n8 : decide ((n : Int) ≤ (ak : Int) + 1 + A) = false := by simpa using c8
     obtain rfl : 0 = R := by rw [← HR2.out, if_neg (fun h => c7 h.1), if_neg (fun h => c3 h.1), if_neg (fun h => c8 h.2)]
     clear c7 c3
     rcases c9 with rfl | rfl
     ·go_wp2_with (first | (go_at_call 151; (refine (HSL.out).mono ?_); rintro e w' ⟨rfl, ⟨nd, rfl⟩⟩))
      go_ret
      exact ⟨rfl, FX HF1.out⟩
     ·go_wp2_with (first | (go_at_call 151; (refine (HSL.out).mono ?_); rintro e w' ⟨rfl, ⟨nd, rfl⟩⟩))
      go_ret
      exact ⟨rfl, FX HF1.out⟩
   have n5 : (op == 26) = false := by rw [beq_eq_false_iff_ne]; omega
   have n4 : (op == 27) = false := by rw [beq_eq_false_iff_ne]; omega
   obtain rfl : 0 = R := by rw [← HR2.out, if_neg (fun h => c7 h.1), if_neg (fun h => c3 h.1), if_neg (fun h => c9 h.1)]
   clear c7 c3 c9
   go_wp2_with (first | (go_at_call 151; (refine (HSL.out).mono ?_); rintro e w' ⟨rfl, ⟨nd, rfl⟩⟩))
   go_ret
   exact ⟨rfl, FX HF1.out⟩
end Go.Proofs.YtpoehkacfmljcaaGreatDoor.H
