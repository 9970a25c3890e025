/- The reference's lists: Takes, slot, without. -/
import Derived.Test.YtmfbdmjgkcijcaaDoorZV
import Derived.Test.YtmfbdmjgkcijcaaDoorZKA
import Derived.Test.YtmfbdmjgkcijcaaDoorZRA
namespace Go.Proofs.YtmfbdmjgkcijcaaDoor.H
open Go.RowKit Go.Proofs.YtmfbdmjgkcijcaaDoorW.PrintWords Go.Proofs.YtmfbdmjgkcijcaaDoorW.PrintLast Go.Proofs.YtmfbdmjgkcijcaaDoorW.PrintMore
open Go.ChangeMaps (setBlock)
attribute [local go_sem] max2_int min2_int max_two min_two max_three min_three max_four min_four
set_option linter.unusedVariables false
set_option linter.unusedSimpArgs false
open Go.Proofs.YtmfbdmjgkcijcaaDoor.M
theorem appN {ops : Array Oper} {rest : List Oper} {o : Oper} {a : Act} {Q : Exit → Act → World → Prop} {W : World} (T E sz bytes : Nat) (z : Value) (s x : Operand) (hg0 : o.guard = none) (ho : o.op = .call { callee := .builtin .append, args := #[s, x], argTypes := #[T, T] }) (ht : Tryd.prog.underlying T = some (.slice E)) (hi : (Tryd.prog.info? E).map (fun i => (i.zero, i.size, i.bytes)) = some (some z, sz, bytes)) (hz : z.cells.size = sz) (hsz : 0 < sz) (v : Value) (n : Nat) (vals : List Value) (g : Nat) (us : List Value)
    (hs : a.eval s = v) (hx : a.eval x = .slice (some ⟨g, 0, none⟩) 1 1) (HO : W.ownsRow 0 E sz v n vals) (hc : W.heap[g]? = some (.cells us.toArray E (0, 0))) (hul : us.length = sz) (hu : ∀ u ∈ us, u.oneCell' = true) (hl : n + 1 ≤ 1000000000) (hb : bytes ≤ 100)
    (h : ∀ v1 w1, w1.ownsRow 0 E sz v1 (n + 1) (vals ++ us) → W.grownBy w1 v.ownBlock → (v1.ownBlock = v.ownBlock ∨ v1.ownBlock = some W.heap.size) → wpList Tryd.prog ops Q rest (a.put o.dst v1) w1) : wpList Tryd.prog ops Q (o :: rest) a W := by
  obtain ⟨i0, hi0, hz0, hz1, hz2⟩ := info_parts hi
  have hbb : (n + 1) * bytes ≤ 140737488355328 := by
    have : (n + 1) * bytes ≤ 1000000000 * 100 := Nat.mul_le_mul hl hb
    omega
  obtain ⟨v1, w1, hr, h2, h3, _, h5⟩ := run_append_own_at (P := Tryd.prog) W 0 T o.type E i0 z sz bytes ht hi0 hz0 hz1 hz2 hz hsz v n vals HO ⟨g, 0, none⟩ 1 1 us (by omega)
    (by
    intro j u hj
    have := blk_cell hc j
    cases j with
    | zero => simpa [Addr.add, hj] using this
    | succ j => simpa [Addr.add, hj] using this) hu (by simp only [maxLen]; omega) hbb (Nat.zero_le _)
  exact wpl_val hg0 (exec_append ho hs hx hr) (h v1 w1 h2 h3 h5)
/-- A slice that reads xs, the world's old blocks untouched. -/
def SlPost {α : Type} (d : Kd α) (xs : List α) (w : World) (e : Ending) (w' : World) : Prop :=
  ∃ A c, e = .returned (.slice A xs.length c) ∧ xs.length ≤ c ∧ d.C w' A xs.length xs ∧ Fr w w' []
theorem C_of_own {α : Type} {d : Kd α} {w : World} {b n : Nat} {e : TypeId} {v : Value} {xs : List α} {vals : List Value} (h : w.ownsRow b e d.sz v n vals) (hR : Reps (d.K w) d.sz xs vals) (hn : xs.length = n) : ∃ A c, v = .slice A n c ∧ n ≤ c ∧ d.C w A n xs := by
  obtain ⟨A, c, rfl, hr⟩ := own_reads_row h hR hn
  refine ⟨A, c, rfl, ?_, hr⟩
  rcases h.2 with ⟨h1, h2⟩ | ⟨g, cap, cur, h1, _, _, h2, _⟩
  · injection h1 with _ h1 h3; omega
  · injection h1 with _ h1 h3; omega
def takesL (op : Int) : List Int := if op = 5 ∨ op = 28 then [1] else if op = 6 ∨ op = 8 then [0] else if op = 25 ∨ op = 27 then [2] else List.replicate (kT op) 1
theorem reps_int (w : World) (k : Nat) : Reps ((Kd.int .i64).K w) 1 (List.replicate k (1 : Int)) (List.replicate k (.int .i64 1)) := by
  induction k with
  | zero => exact Reps.none _ _
  | succ k ih => rw [List.replicate_succ', List.replicate_succ']; exact ih.snoc rfl rfl
theorem int_one (w : World) (A : Option Addr) (g : Nat) (x : Int) (h : w.heap[g]? = some (.cells #[.int .i64 x] 3 (0, 0))) : (Kd.int .i64).C w (some ⟨g, 0, none⟩) 1 [x] :=
  ⟨rfl, by decide, fun _ => ⟨⟨g, 0, none⟩, rfl, fun j p hj => by
    obtain rfl : j = 0 := by cases j with | zero => rfl | succ j => simp at hj
    obtain rfl : x = p := by simpa using hj
    refine ⟨[.int .i64 x], rfl, rfl, fun i u hu => ?_⟩
    obtain rfl : i = 0 := by cases i with | zero => rfl | succ i => simp at hu
    obtain rfl : Value.int .i64 x = u := by simpa using hu
    exact blk_cell h 0⟩⟩
set_option maxHeartbeats 4000000 in
set_option maxRecDepth 100000 in
theorem takes_one (op x : Int) (hop : (x = 1 ∧ (op = 5 ∨ op = 28)) ∨ (x = 0 ∧ (op = 6 ∨ op = 8)) ∨ (x = 2 ∧ (op = 25 ∨ op = 27))) (w : World) : Calls Tryd.prog 57 #[.int .i64 op] w (SlPost (Kd.int .i64) [x] w) := by
  rcases hop with ⟨rfl, rfl | rfl⟩ | ⟨rfl, rfl | rfl⟩ | ⟨rfl, rfl | rfl⟩
  all_goals (
    go_enter Tryd.func57, Tryd.ntmps57
    go_wp2
    go_ret
    exact ⟨_, _, rfl, by decide, int_one _ none _ _ (blk_newN rfl), FQ⟩)
set_option maxHeartbeats 4000000 in
set_option maxRecDepth 100000 in
theorem takes_many (op : Int) (h0 : 0 ≤ op) (h1 : op < 29) (hop : ¬ (op = 5 ∨ op = 28 ∨ op = 6 ∨ op = 8 ∨ op = 25 ∨ op = 27)) (w : World) (G : TabW w) : Calls Tryd.prog 57 #[.int .i64 op] w (SlPost (Kd.int .i64) (List.replicate (kT op) 1) w) := by
  have HE := Aside0.mk (fun W (hf : Fr w W []) => rEffect_calls op h0 h1 W (G.fr0 hf))
  have e1 : (op == 5) = false := by rw [beq_eq_false_iff_ne]; omega
  have e2 : (op == 28) = false := by rw [beq_eq_false_iff_ne]; omega
  have e3 : (op == 6) = false := by rw [beq_eq_false_iff_ne]; omega
  have e4 : (op == 8) = false := by rw [beq_eq_false_iff_ne]; omega
  have e5 : (op == 25) = false := by rw [beq_eq_false_iff_ne]; omega
  have e6 : (op == 27) = false := by rw [beq_eq_false_iff_ne]; omega
  obtain ⟨_, _, hk3, _⟩ := kTP op.toNat (by omega)
  rw [show ((op.toNat : Nat) : Int) = op by omega] at hk3
  clear h0 h1 hop G
  generalize kT op = n at HE hk3 ⊢
  generalize kP op = u at HE
  go_enter Tryd.func57, Tryd.ntmps57
  go_wp2_with (first | (go_at_call 60; (with_reducible refine (HE.out _ ?_).mono ?_); (next => exact FQ); rintro e W1 ⟨rfl, hF1⟩; have HF1 : Aside0 (Fr w W1 []) := ⟨Fr.trans (M := []) FQ hF1 (by simp)⟩; clear hF1))
  go_loopg [3, 7] n (fun kq s3 s7 wr => ∃ (k : Nat) (A : Option Addr) (m c : Nat), s3 = .slice A m c ∧ s7 = .int .i64 k ∧ k ≤ n ∧ Aside0 (n - k ≤ kq) ∧ Aside0 (Fr w wr []) ∧ Aside0 (wr.ownsRow 0 3 1 (.slice A m c) k (List.replicate k (.int .i64 1))) ∧ Aside0 (∀ i, (Value.slice A m c).ownBlock = some i → w.heap.size ≤ i))
  case atStart => exact ⟨0, none, 0, 0, rfl, rfl, Nat.zero_le _, ⟨Nat.le_refl _⟩, ⟨by (with_reducible (repeat (first | exact Fr.refl _ _ | refine Fr.drew ?_ | refine Fr.drewN ?_ _ | refine Fr.alloc ?_ _ | refine Fr.setCell ?_ _ _ ?_))); exact HF1.out⟩, ⟨own_nil _ _ _ _⟩, ⟨fun i h => by simp [Value.ownBlock] at h⟩⟩
  case round =>
    obtain ⟨k, A, m, c, rfl, rfl, hk, HM, HFW, HO, HOB⟩ := hrel
    by_cases hkl : k < n
    · have n3 : decide (k < n) = true := by simpa using hkl
      go_wp2_with (first | (at_builtin; refine appN 23 3 1 8 (.int .i64 0) (.tmp 32) (.tmp 33) rfl rfl Tryd.underlying23 info3 rfl (by decide) (.slice A m c) k (List.replicate k (.int .i64 1)) wr.heap.size [.int .i64 1] rfl rfl (own_fr HO.out (L := []) FQ (fun _ _ => List.not_mem_nil)) (blk_newN rfl) rfl (by simp [Value.oneCell']) (by omega) (by omega) ?_; intro v1 w1 hO1 hg1 hat1; obtain ⟨A1, m1, c1, hv1⟩ := own_isSlice hO1; subst hv1; have HO1 := Aside0.mk hO1; have HG1 := Aside0.mk (Fr.grown (a := wr) (L := (Value.slice A m c).ownBlock.toList) FQ hg1 (fun k hk => .inl (by simp [hk]))); have HAT := Aside0.mk hat1; clear hO1 hg1 hat1))
      go_roundg (n - (k + 1))
      case measure => have := HM.out; omega
      case rel =>
        refine ⟨k + 1, A1, m1, c1, rfl, by go_num, by omega, ⟨Nat.le_refl _⟩, ⟨HFW.out.trans HG1.out (fun i hi => .inr (HOB.out i (by simpa using hi)))⟩, ⟨by rw [List.replicate_succ']; exact HO1.out⟩, ⟨fun i hi => ?_⟩⟩
        rcases HAT.out with h9 | h9
        · exact HOB.out i (h9 ▸ hi)
        · rw [h9] at hi
          have := HFW.out.size
          simp at hi
          omega
    · obtain rfl : k = n := by omega
      have n3 : decide (k < k) = false := by simp
      go_wp2
      go_ret
      obtain ⟨A1, c1, hv, hc, hC⟩ := C_of_own (d := Kd.int .i64) HO.out (reps_int wr k) (by simp)
      injection hv with h1 h2 h3
      subst h1 h2 h3
      exact ⟨A, c, by simp, by simpa using hc, by simpa using hC, HFW.out⟩
theorem takes_calls (op : Int) (h0 : 0 ≤ op) (h1 : op < 29) (w : World) (G : TabW w) : Calls Tryd.prog 57 #[.int .i64 op] w (SlPost (Kd.int .i64) (takesL op) w) := by
  unfold takesL
  by_cases h5 : op = 5 ∨ op = 28
  · rw [if_pos h5]; exact takes_one op 1 (.inl ⟨rfl, h5⟩) w
  rw [if_neg h5]
  by_cases h6 : op = 6 ∨ op = 8
  · rw [if_pos h6]; exact takes_one op 0 (.inr (.inl ⟨rfl, h6⟩)) w
  rw [if_neg h6]
  by_cases h7 : op = 25 ∨ op = 27
  · rw [if_pos h7]; exact takes_one op 2 (.inr (.inr ⟨rfl, h7⟩)) w
  rw [if_neg h7]
  exact takes_many op h0 h1 (by omega) w G
end Go.Proofs.YtmfbdmjgkcijcaaDoor.H
namespace Go.Proofs.YtmfbdmjgkcijcaaDoor.H
open Go.RowKit Go.Proofs.YtmfbdmjgkcijcaaDoorW.PrintWords Go.Proofs.YtmfbdmjgkcijcaaDoorW.PrintLast Go.Proofs.YtmfbdmjgkcijcaaDoorW.PrintMore
open Go.ChangeMaps (setBlock)
attribute [local go_sem] max2_int min2_int max_two min_two max_three min_three max_four min_four
set_option linter.unusedVariables false
set_option linter.unusedSimpArgs false
open Go.Proofs.YtmfbdmjgkcijcaaDoor.M
abbrev KS : Type := S129
theorem kept_at {w : World} {A : Option Addr} {n : Nat} {xs : List KS} (h : Kd.C k129 w A n xs) (k : Nat) (hk : k < n) : ∃ ad, A = some ad ∧ w.cell? (ad.add (k * 2)) = some (.int .i64 (xs.getD k z129).f0) ∧ w.cell? ⟨(ad.add (k * 2)).block, (ad.add (k * 2)).off + 1, none⟩ = some (.int .i64 (xs.getD k z129).f1) := by
  obtain ⟨ad, e, h0, h1⟩ := at_T129 h (k : Int) (by omega) (by omega)
  simp only [rd_T129, Int.toNat_natCast] at h0 h1
  exact ⟨ad, e, h0, h1⟩
def slotL : List KS → Int → Int
  | [], _ => 0
  | x :: l, n => if x.f0 = n then x.f1 else slotL l n
theorem slot_on {l : List KS} {n : Int} {k : Nat} {x : KS} (hx : l[k]? = some x) (hn : x.f0 ≠ n) (h : slotL l n = slotL (l.drop k) n) : slotL l n = slotL (l.drop (k + 1)) n := by
  rw [h, List.drop_eq_getElem_cons (List.getElem?_eq_some_iff.1 hx).1]
  rw [(List.getElem?_eq_some_iff.1 hx).2]
  simp only [slotL]
  rw [if_neg hn]
theorem slot_hit {l : List KS} {n : Int} {k : Nat} {x : KS} (hx : l[k]? = some x) (hn : x.f0 = n) (h : slotL l n = slotL (l.drop k) n) : slotL l n = x.f1 := by
  rw [h, List.drop_eq_getElem_cons (List.getElem?_eq_some_iff.1 hx).1]
  rw [(List.getElem?_eq_some_iff.1 hx).2]
  simp only [slotL]
  rw [if_pos hn]
set_option maxHeartbeats 4000000 in
set_option maxRecDepth 100000 in
theorem slot_calls (A : Option Addr) (c : Nat) (l : List KS) (n : Int) (w : World) (hC : Kd.C k129 w A l.length l) : Calls Tryd.prog 58 #[.slice A l.length c, .int .i64 n] w fun e w' => e = .returned (.int .i64 (slotL l n)) ∧ Drawn0 w w' := by
  obtain ⟨R, hR⟩ : ∃ x, slotL l n = x := ⟨_, rfl⟩
  have HR := Aside0.mk hR
  have HC := Aside0.mk hC
  have hl63 := Kd.C_max hC
  rw [hR]
  clear hC hR
  go_enter Tryd.func58, Tryd.ntmps58
  go_wp2
  go_loopg [5] l.length (fun kq s5 wr => ∃ k : Nat, s5 = .int .i64 k ∧ k ≤ l.length ∧ Aside0 (l.length - k ≤ kq) ∧ Drawn0 w wr ∧ Aside0 (slotL l n = slotL (l.drop k) n))
  case atStart => exact ⟨0, rfl, Nat.zero_le _, ⟨Nat.le_refl _⟩, DQ, ⟨by rw [List.drop_zero]⟩⟩
  case round =>
    obtain ⟨k, rfl, hk, HM, ⟨nk, rfl⟩, HA⟩ := hrel
    by_cases hkl : k < l.length
    · have n3 : decide (k < l.length) = true := by simpa using hkl
      obtain ⟨ad, rfl, h0, h1⟩ := kept_at HC.out k hkl
      obtain ⟨x, hx⟩ : ∃ x, l.getD k z129 = x := ⟨_, rfl⟩
      rw [hx] at h0 h1
      have hxm : l[k]? = some x := by rw [List.getD_eq_getElem?_getD, List.getElem?_eq_getElem hkl] at hx; rw [List.getElem?_eq_getElem hkl]; simpa using hx
      have HX := Aside0.mk hxm
      clear hx hxm
      by_cases hn : x.f0 = n
      · have n4 : (x.f0 == n) = true := by simpa using hn
        have HN := Aside0.mk hn
        clear hn
        go_wp2
        go_ret
        exact ⟨by rw [← HR.out, slot_hit HX.out HN.out HA.out]; rfl, DQ⟩
      · have n4 : (x.f0 == n) = false := by simpa using hn
        have HN := Aside0.mk hn
        clear hn
        go_wp2
        go_roundg (l.length - (k + 1))
        case measure => have := HM.out; omega
        case rel => exact ⟨k + 1, by go_num, by omega, ⟨Nat.le_refl _⟩, DQ, ⟨slot_on HX.out HN.out HA.out⟩⟩
    · obtain rfl : k = l.length := by omega
      have n3 : decide (l.length < l.length) = false := by simp
      go_wp2
      go_ret
      exact ⟨by rw [← HR.out, HA.out, List.drop_length]; rfl, DQ⟩
def KR (x : KS) (cs : List Value) : Prop := cs = [.int .i64 x.f0, .int .i64 x.f1]
/-- A slice of the call's own that holds xs. -/
def OwPost (xs : List KS) (w : World) (e : Ending) (w' : World) : Prop :=
  ∃ A c vals, e = .returned (.slice A xs.length c) ∧ w'.ownsRow 0 129 2 (.slice A xs.length c) xs.length vals ∧ Reps KR 2 xs vals ∧ (∀ i, (Value.slice A xs.length c).ownBlock = some i → w.heap.size ≤ i) ∧ Fr w w' []
theorem reps_kept {xs : List KS} {vals : List Value} (h : Reps KR 2 xs vals) (w : World) : Reps (k129.K w) 2 xs vals := h.imp_ (fun p c hc => by rw [show c = _ from hc]; exact k129_mk w p)
def withoutL (l : List KS) (n : Int) : List KS := l.filter (fun x => !(decide (x.f0 = n)))
theorem without_snoc (l : List KS) (n : Int) {k : Nat} {x : KS} (hx : l[k]? = some x) : withoutL (l.take (k + 1)) n = withoutL (l.take k) n ++ if x.f0 = n then [] else [x] := by
  unfold withoutL
  rw [List.take_add_one, hx, List.filter_append]
  by_cases h : x.f0 = n <;> simp [h]
theorem without_len (l : List KS) (n : Int) (k : Nat) : (withoutL (l.take k) n).length ≤ k := Nat.le_trans (List.length_filter_le _ _) (by rw [List.length_take]; omega)
set_option maxHeartbeats 4000000 in
set_option maxRecDepth 100000 in
theorem without_calls (A : Option Addr) (c : Nat) (l : List KS) (n : Int) (w : World) (hC : Kd.C k129 w A l.length l) (hl : l.length ≤ 100000000) : Calls Tryd.prog 59 #[.slice A l.length c, .int .i64 n] w (OwPost (withoutL l n) w) := by
  obtain ⟨R, hR⟩ : ∃ x, withoutL l n = x := ⟨_, rfl⟩
  rw [hR]
  have HR := Aside0.mk hR
  have HC := Aside0.mk hC
  clear hC hR
  have hup := Tryd.underlying129
  go_enter Tryd.func59, Tryd.ntmps59
  go_wp2
  go_loopg [5, 6] l.length (fun kq s5 s6 wr => ∃ (k : Nat) (Av : Option Addr) (m cv : Nat) (vals : List Value), s5 = .slice Av m cv ∧ s6 = .int .i64 k ∧ k ≤ l.length ∧ Aside0 (l.length - k ≤ kq) ∧ Aside0 (Fr w wr []) ∧ Aside0 (wr.ownsRow 0 129 2 (.slice Av m cv) (withoutL (l.take k) n).length vals) ∧ Aside0 (Reps KR 2 (withoutL (l.take k) n) vals) ∧ Aside0 (∀ i, (Value.slice Av m cv).ownBlock = some i → w.heap.size ≤ i))
  case atStart => exact ⟨0, none, 0, 0, [], rfl, rfl, Nat.zero_le _, ⟨Nat.le_refl _⟩, ⟨FQ⟩, ⟨own_nil _ _ _ _⟩, ⟨Reps.none _ _⟩, ⟨fun i h => by simp [Value.ownBlock] at h⟩⟩
  case round =>
    obtain ⟨k, Av, m, cv, vals, rfl, rfl, hk, HM, HFW, HO, HRP, HOB⟩ := hrel
    by_cases hkl : k < l.length
    · have n3 : decide (k < l.length) = true := by simpa using hkl
      obtain ⟨ad, rfl, h0, h1⟩ := kept_at (Kd.C_below HC.out HFW.out.below) k hkl
      obtain ⟨x, hx⟩ : ∃ x, l.getD k z129 = x := ⟨_, rfl⟩
      rw [hx] at h0 h1
      have hxm : l[k]? = some x := by rw [List.getD_eq_getElem?_getD, List.getElem?_eq_getElem hkl] at hx; rw [List.getElem?_eq_getElem hkl]; simpa using hx
      have HS := Aside0.mk (without_snoc l n hxm)
      have HL := Aside0.mk (without_len l n k)
      clear hx hxm
      by_cases hn : x.f0 = n
      · have n4 : (x.f0 != n) = false := by simpa using hn
        have HN := Aside0.mk hn
        clear hn
        go_wp2
        go_roundg (l.length - (k + 1))
        case measure => have := HM.out; omega
        case rel =>
          have hs := HS.out
          rw [if_pos HN.out, List.append_nil] at hs
          exact ⟨k + 1, Av, m, cv, vals, rfl, by go_num, by omega, ⟨Nat.le_refl _⟩, ⟨by (with_reducible (repeat (first | exact Fr.refl _ _ | refine Fr.drew ?_ | refine Fr.drewN ?_ _ | refine Fr.alloc ?_ _ | refine Fr.setCell ?_ _ _ ?_))); exact HFW.out⟩, ⟨by rw [hs]; exact own_fr HO.out (L := []) FQ (fun _ _ => List.not_mem_nil)⟩, ⟨by rw [hs]; exact HRP.out⟩, HOB⟩
      · have n4 : (x.f0 != n) = true := by simpa using hn
        have HN := Aside0.mk hn
        have hwl : (withoutL (l.take k) n).length + 1 ≤ 1000000000 := by have := HL.out; omega
        obtain ⟨nn, hnn⟩ : ∃ nn, (withoutL (l.take k) n).length = nn := ⟨_, rfl⟩
        have HO' := Aside0.mk (hnn ▸ HO.out)
        rw [hnn] at hwl
        have HNN := Aside0.mk hnn
        clear hn hnn
        go_wp2_with (first | (at_builtin; refine appN 87 129 2 16 (.agg #[.int .i64 0, .int .i64 0]) (.tmp 20) (.tmp 25) rfl rfl Tryd.underlying87 info129 rfl (by decide) (.slice Av m cv) nn vals wr.heap.size [.int .i64 x.f0, .int .i64 x.f1] rfl rfl (own_fr HO'.out (L := []) FQ (fun _ _ => List.not_mem_nil)) (blk_newN rfl) rfl (by simp [Value.oneCell']) hwl (by omega) ?_; intro v1 w1 hO1 hg1 hat1; obtain ⟨A1, m1, c1, hv1⟩ := own_isSlice hO1; subst hv1; have HO1 := Aside0.mk hO1; have HG1 := Aside0.mk (Fr.grown (a := wr) (L := (Value.slice Av m cv).ownBlock.toList) FQ hg1 (fun k hk => .inl (by simp [hk]))); have HAT := Aside0.mk hat1; clear hO1 hg1 hat1))
        go_roundg (l.length - (k + 1))
        case measure => have := HM.out; omega
        case rel =>
          have hs := HS.out
          rw [if_neg HN.out] at hs
          refine ⟨k + 1, A1, m1, c1, _, rfl, by go_num, by omega, ⟨Nat.le_refl _⟩, ⟨HFW.out.trans HG1.out (fun i hi => .inr (HOB.out i (by simpa using hi)))⟩, ⟨by rw [hs, List.length_append, HNN.out]; exact HO1.out⟩, ⟨by rw [hs]; exact HRP.out.snoc rfl rfl⟩, ⟨fun i hi => ?_⟩⟩
          rcases HAT.out with h9 | h9
          · exact HOB.out i (h9 ▸ hi)
          · rw [h9] at hi
            have := HFW.out.size
            simp at hi
            omega
    · obtain rfl : k = l.length := by omega
      have n3 : decide (l.length < l.length) = false := by simp
      have ho := HO.out
      have hrp := HRP.out
      rw [List.take_length, HR.out] at ho hrp
      have HO2 := Aside0.mk ho
      have HRP2 := Aside0.mk hrp
      clear ho hrp
      go_wp2
      go_ret
      obtain ⟨A1, c1, hv, _⟩ := own_reads_row HO2.out HRP2.out rfl
      injection hv with h1 h2 h3
      subst h1 h2 h3
      exact ⟨_, _, vals, rfl, HO2.out, HRP2.out, HOB.out, HFW.out⟩
end Go.Proofs.YtmfbdmjgkcijcaaDoor.H
