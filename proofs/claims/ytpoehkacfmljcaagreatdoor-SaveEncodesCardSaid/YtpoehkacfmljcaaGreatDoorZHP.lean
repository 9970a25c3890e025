/- apply: what an instruction does with a state. -/
import Derived.Test.YtpoehkacfmljcaaGreatDoorZV
import Derived.Test.YtpoehkacfmljcaaGreatDoorZHS
import Derived.Deep.DeepCutAuto
import Derived.Deep.RegionHeld3
set_option maxHeartbeats 4000000
set_option maxRecDepth 100000
namespace Go.Proofs.YtpoehkacfmljcaaGreatDoor.H
open Go.RowKit Go.Proofs.YtpoehkacfmljcaaGreatDoorW.PrintWords Go.Proofs.YtpoehkacfmljcaaGreatDoorW.PrintLast Go.Proofs.YtpoehkacfmljcaaGreatDoorW.PrintMore
open Go.ChangeMaps (setBlock)
attribute [local go_sem] max2_int min2_int max_two min_two max_three min_three max_four min_four
set_option linter.unusedVariables false
set_option linter.unusedSimpArgs false
def wrongOf (want : Option Bool) (zs : List Bool) : Bool := match want with | some b => zs.any (fun x => x != b) | none => false
def applyE (want : Option Bool) (t : Nat) (op A B day : Int) (xs : List Bool) (s : Int → Option Bool) : Int :=
 if xs.length < t ∨ (op = 0 ∧ 0 < xs.length) then 142 else if wrongOf want (xs.drop (xs.length - t)) = true then 143 else if op = 7 ∧ s A = none then 144 else if op = 3 ∧ day < B then 145 else 0
def applyX (t u : Nat) (op A : Int) (xs : List Bool) (s : Int → Option Bool) : List Bool :=
 xs.take (xs.length - t) ++ (if op = 7 then [(s A).getD false] else if op = 6 then [(xs.drop (xs.length - t)).headD false] else List.replicate u (givesB op))
def applyK (t : Nat) (op A : Int) (xs : List Bool) (s : Int → Option Bool) : Int → Option Bool :=
 if op = 6 then fun k => if k = A then some ((xs.drop (xs.length - t)).headD false) else s k else s
def NE (t : Nat) (op : Int) (n : Nat) : Prop := ¬ (n < t ∨ (op = 0 ∧ 0 < n))
theorem Fr.mid {a b : World} {p r : Nat} {l : List Nat} (h : Fr a b (p :: l)) : Fr a b (p :: r :: l) := h.mono (fun i hi => by rcases List.mem_cons.1 hi with h | h; exact h ▸ List.mem_cons_self; exact List.mem_cons_of_mem _ (List.mem_cons_of_mem _ h))
theorem pop_agg (p : Nat) (v m : Value) (xs : List Bool) (x : Bool) (w : World) (hp : w.heap[p]? = some (.cells #[v, m] 215 (0, 0))) (hv : Bs w v (xs ++ [x])) :
  Calls Tryz.prog 160 #[.pointer (some ⟨p, 0, none⟩)] w fun e w' => ∃ v', e = .returned (.agg #[.bool x]) ∧ Fr w w' [p] ∧ w'.heap[p]? = some (.cells #[v', m] 215 (0, 0)) ∧ Bs w' v' xs ∧ v'.ownBlock = v.ownBlock := pop_calls p v m xs x w hp hv
theorem push_agg (p : Nat) (v m : Value) (xs : List Bool) (x : Bool) (w : World) (hp : w.heap[p]? = some (.cells #[v, m] 215 (0, 0))) (hv : Bs w v xs) (hl : xs.length + 1 ≤ 140737488355328) :
  Calls Tryz.prog 161 #[.pointer (some ⟨p, 0, none⟩), .agg #[.bool x]] w fun e w' => ∃ v', e = .returned (.tuple #[]) ∧ Fr w w' (p :: v.ownBlock.toList) ∧ w'.heap[p]? = some (.cells #[v', m] 215 (0, 0)) ∧ Bs w' v' (xs ++ [x]) ∧ (v'.ownBlock = v.ownBlock ∨ ∃ g, v'.ownBlock = some g ∧ w.heap.size ≤ g) := push_calls p v m xs x w hp hv hl
theorem height_fr {w0 w : World} (p : Nat) (A : Option Addr) (n c : Nat) (m : Value) (hb : w0.heap[p]? = some (.cells #[.slice A n c, m] 215 (0, 0))) (hf : Fr w0 w []) :
  Calls Tryz.prog 134 #[.pointer (some ⟨p, 0, none⟩)] w fun e w' => e = .returned (.int .i64 n) ∧ Drawn0 w w' :=
 height_calls p A n c m w (blk_cell (hf.blk hb (by simp)) 0)
def ApplyPost (wt : Option Bool) (t u : Nat) (op A B day : Int) (p r : Nat) (xs : List Bool) (es : Es Bool) (v : Value) (w : World) (e : Ending) (w' : World) : Prop :=
 e = .returned (.int .i64 (applyE wt t op A B day xs (look es))) ∧ Fr w w' (p :: r :: v.ownBlock.toList) ∧
   (applyE wt t op A B day xs (look es) = 0 → ∃ v' es' clk', St w' p v' r (applyX t u op A xs (look es)) es' clk' ∧ (∀ k, look es' k = applyK t op A xs (look es) k) ∧ (v'.ownBlock = v.ownBlock ∨ ∃ g, v'.ownBlock = some g ∧ w.heap.size ≤ g))
theorem apply_end (wt : Option Bool) (hwt : look wantsEs (0) = wt) (t u : Nat) (HE : ∀ W, TabW W → Calls Tryz.prog 158 #[.int .i64 (0)] W fun e w' => e = .returned (.tuple #[.int .i64 t, .int .i64 u, .int .i64 0]) ∧ Drawn0 W w') (ht3 : t ≤ 3) (hu1 : u ≤ 1) (A B day : Int) (p r clk : Nat) (v : Value) (xs : List Bool) (es : Es Bool) (w : World) (hs : St w p v r xs es clk) (hl : xs.length + 1 ≤ 140737488355328) (G : TabW w) (hbig : ∀ b ∈ p :: r :: v.ownBlock.toList, 3 < b) (hE : t ≤ xs.length) (hx : xs.length = 0) :
  Calls Tryz.prog 137 #[.pointer (some ⟨p, 0, none⟩), .agg #[.int .i64 (0), .int .i64 A, .int .i64 B], .int .i64 day] w (ApplyPost wt t u (0) A B day p r xs es v w) := by
 obtain ⟨SA, sc, rfl, hr⟩ := hs.row.slice
 have hlt := blk_lt hs.blk
 have c0 := blk_cell hs.blk 0
 have c1 := blk_cell hs.blk 1
 have HS0 := AsM hs
 have HG := AsM G
 have HE' := AsM HE
 have HW := AsM hwt
 have n2 : decide (0 < xs.length) = false := by simp [hx]
 have HXZ := AsM hx
 clear hx
 have n1 : decide (xs.length < t) = false := by simp; omega
 have HNE : Aside0 (NE t (0) xs.length) := ⟨by unfold NE; have := HXZ.out; omega⟩
 clear hs hr G HE hwt
 go_enter Tryz.func137, Tryz.ntmps137
 go_upto_region 4 with (first | (go_at_call 158; (with_reducible refine (HE'.out _ ?tab).mono ?_); (case tab => exact HG.out.fr0 FQ); rintro e w' ⟨rfl, ⟨nd, rfl⟩⟩))
 go_cut [43] (fun b wx => b = .bool false ∧ Aside0 (Fr w wx []) ∧ Aside0 (wx.heap[w.heap.size]? = some (.cells #[.int .i64 (0), .int .i64 A, .int .i64 B] 113 (0, 0))))
 case first =>
  go_wp2_with (first | (go_at_call 134; (refine (height_fr p _ _ _ _ HS0.out.blk (by (with_reducible (repeat (first | refine Fr.drew ?_ | refine Fr.drewN ?_ _ | refine Fr.alloc ?_ _ | refine Fr.setCell ?_ _ _ ?_))); exact Fr.refl _ _)).mono ?_); rintro e w' ⟨rfl, ⟨nd2, rfl⟩⟩))
  all_goals (
   go_meet
   refine ⟨?_, ⟨FQ⟩, ⟨(by (with_reducible (repeat (first | apply blk_drew | apply blk_alloc | apply blk_set))); exact blk_newN rfl)⟩⟩
   first | rfl | (simp [*]; done) | (simp; omega))
 case rest =>
 obtain ⟨rfl, HF, HBX⟩ := hcut
 clear n1
 go_upto_region 6 with fail
 go_cut [10, 11] (fun a b wx => ∃ g10 : Nat, a = .pointer (some ⟨g10, 0, none⟩) ∧ b = .bool wt.isSome ∧ Aside0 (wx.heap[g10]? = some (.cells #[.bool (wt.getD false)] 251 (0, 0))) ∧ w.heap.size < g10 ∧ Aside0 (Fr w wx []) ∧ Aside0 (wx.heap[w.heap.size]? = some (.cells #[.int .i64 (0), .int .i64 A, .int .i64 B] 113 (0, 0))))
 case first =>
  have HBC := blk_cell HBX.out 0
  have hbxlt := blk_lt HBX.out
  go_region_held3 (fun w' => w'.cell? ⟨w.heap.size, 0, none⟩ = some (.int .i64 (0))) (first | exact HBC9 | exact cell_far HBC9 (by simp; omega) | go_keep) (first | (go_simp; go_at_call 159; (refine (wants_calls _ (HG.out.fr0 (by (with_reducible (repeat (first | refine Fr.drew ?_ | refine Fr.drewN ?_ _ | refine Fr.alloc ?_ _ | refine Fr.setCell ?_ _ _ ?_))); exact HF.out))).mono ?_); rintro e w' ⟨r9, rfl, hF9, hM9, hr9⟩; have HF9 := AsM hF9; have HM9 := AsM hM9; have HB9 := AsM (hF9.blk (g := w.heap.size) (by (with_reducible (repeat (first | apply blk_drew | apply blk_alloc | apply blk_set))); exact HBX.out) (by simp)); have HBC9 := blk_cell HB9.out 0; have hb9lt := blk_lt HB9.out; have HBF9 := AsM ((Fr.trans HF.out (c := w') (M := []) (by refine Fr.trans (M := []) ?_ hF9 (by simp); (with_reducible (repeat (first | refine Fr.drew ?_ | refine Fr.drewN ?_ _ | refine Fr.alloc ?_ _ | refine Fr.setCell ?_ _ _ ?_))); exact Fr.refl _ _) (by simp))); (try (have HA9 := AsM (hF9.blk (g := wc.heap.size) (o := .cells #[.bool false] 251) (by first | exact blk_newN rfl | exact blk_drew (blk_newN rfl)) (by simp)); have HAC9 := blk_cell HA9.out 0; have HAZ9 := blk_frozen HA9.out 0)); have hlk := look_run (0) hM9; have hlk2 := look_run (0) (blk_alloc hM9 (.cells #[.bool false] 251)); rw [HW.out] at hlk hlk2; clear hF9 hM9))
  all_goals (
   go_wp2_with fail
   go_meet
   refine ⟨_, rfl, rfl, ⟨?_⟩, ?_, ⟨?_⟩, ⟨?_⟩⟩
   ·first | exact blk_newN rfl | exact blk_to (blk_set HA9.out 0 _) rfl
   ·first | exact hb9lt | exact hbxlt
   ·(with_reducible (repeat (first | refine Fr.drew ?_ | refine Fr.drewN ?_ _ | refine Fr.alloc ?_ _ | refine Fr.setCell ?_ _ _ ?_))) <;> first | exact HBF9.out | (simp; omega)
   ·first | exact blk_alloc HB9.out _ | exact at_far HB9.out (by simp; omega) _)
 case rest =>
 obtain ⟨g10, rfl, rfl, H10, h10, HF6, HB6⟩ := hcut
 clear HF HBX
 have HT6 := HG.out.fr0 HF6.out
 have t0 := HT6.num
 have t1 : 2 < wc.heap.size := by have := HT6.lt; omega
 clear HT6
 have hlt6 := blk_lt H10.out
 have hut := Tryz.underlying251
 go_wp2
 go_loopg [13, 53] t (fun kq a b wr => ∃ (j : Nat) (rem pop : List Bool) (v' : Value), a = .bool (wrongOf wt pop) ∧ b = .int .i64 j ∧ j ≤ t ∧ Aside0 (t - j ≤ kq) ∧ Aside0 (xs = rem ++ pop) ∧ Aside0 (pop.length = j) ∧ Aside0 (Fr w wr [p]) ∧ Aside0 (St wr p v' r rem es clk) ∧ Aside0 (v'.ownBlock = (Value.slice SA xs.length sc).ownBlock) ∧ Aside0 (wr.heap[wc.heap.size]? = some (.cells #[.bool (pop.headD false)] 251 (0, 0))) ∧ Aside0 (wr.heap[g10]? = some (.cells #[.bool (wt.getD false)] 251 (0, 0))) ∧ Aside0 (wr.heap[w.heap.size]? = some (.cells #[.int .i64 (0), .int .i64 A, .int .i64 B] 113 (0, 0))))
 case atStart => exact ⟨0, xs, [], _, (by cases wt <;> rfl), rfl, Nat.zero_le _, ⟨Nat.le_refl _⟩, ⟨by simp⟩, ⟨rfl⟩, ⟨(HF6.out.alloc _).mono (by simp)⟩, ⟨HS0.out.new (HF6.out.alloc _)⟩, ⟨rfl⟩, ⟨blk_newN rfl⟩, ⟨blk_alloc H10.out _⟩, ⟨blk_alloc HB6.out _⟩⟩
 case round =>
  obtain ⟨j, rem, pop, v', rfl, rfl, hj, HM, HX, HPL, HFr, HSt, HV', H12, H10r, HBr⟩ := hrel
  by_cases hjt : j < t
  ·obtain ⟨rem', x, rfl⟩ : ∃ rem' x, rem = rem' ++ [x] := by
    have h1 := HX.out; have h2 := HPL.out
    have : rem ≠ [] := by rintro rfl; simp at h1; subst h1; omega
    exact ⟨rem.dropLast, rem.getLast this, (List.dropLast_concat_getLast this).symm⟩
   have hne := HSt.out.row.ne HSt.out.blk (by decide)
   have n3 : decide (j < t) = true := by simpa using hjt
   have hg12 := blk_cell H12.out 0
   have hz12 := blk_frozen H12.out 0
   have hlt12 := blk_lt H12.out
   clear t0 t1
   cases wt with
   | none =>
    ·rw [show wrongOf none pop = false from rfl]
     go_wp2_with (first | (go_at_call 160; (refine (pop_agg p _ _ rem' x _ HSt.out.blk HSt.out.row).mono ?_); rintro e w' ⟨v2, rfl, hF2, hb2, hr2, ho2⟩; have HF2 := AsM hF2; have HS2 := AsM (HSt.out.popped hF2 hb2 hr2); have HO2 := AsM ho2; have H12b := AsM (hF2.blk H12.out (by simp; omega)); have hg12b := blk_cell H12b.out 0; have hz12b := blk_frozen H12b.out 0; have H10b := AsM (hF2.blk H10r.out (by simp; omega)); have hg10b := blk_cell H10b.out 0; have hlt10b := blk_lt H10b.out; clear hF2 hb2 hr2 ho2))
     go_roundg (t - (j + 1))
     case measure => have := HM.out; omega
     case rel =>
      have s6 := HF6.out.size
      have hr0 := blk_lt HS0.out.mp
      exact ⟨j + 1, rem', x :: pop, v2, rfl, by go_num, by omega, ⟨Nat.le_refl _⟩, ⟨by rw [HX.out]; simp⟩, ⟨by simp [HPL.out]⟩, ⟨(HFr.out.trans HF2.out (by simp)).setCell _ _ (.inr (by simpa using s6))⟩, ⟨HS2.out.fr (Fr.set _ _ _) (by simp; omega) (by simp; omega) (fun k hk => by rw [HO2.out, HV'.out] at hk; have := HS0.out.row.lt k hk; simp; omega)⟩, ⟨HO2.out.trans HV'.out⟩, ⟨blk_to (blk_set H12b.out 0 _) rfl⟩, ⟨at_far H10b.out (by simp; omega) _⟩, ⟨at_far (HF2.out.blk HBr.out (by simp; omega)) (by simp; omega) _⟩⟩
   | some b =>
    cases hw : wrongOf (some b) pop with
    | true =>
     go_wp2_with (first | (go_at_call 160; (refine (pop_agg p _ _ rem' x _ HSt.out.blk HSt.out.row).mono ?_); rintro e w' ⟨v2, rfl, hF2, hb2, hr2, ho2⟩; have HF2 := AsM hF2; have HS2 := AsM (HSt.out.popped hF2 hb2 hr2); have HO2 := AsM ho2; have H12b := AsM (hF2.blk H12.out (by simp; omega)); have hg12b := blk_cell H12b.out 0; have hz12b := blk_frozen H12b.out 0; have H10b := AsM (hF2.blk H10r.out (by simp; omega)); have hg10b := blk_cell H10b.out 0; have hlt10b := blk_lt H10b.out; clear hF2 hb2 hr2 ho2))
     go_roundg (t - (j + 1))
     case measure => have := HM.out; omega
     case rel =>
      have s6 := HF6.out.size
      have hr0 := blk_lt HS0.out.mp
      exact ⟨j + 1, rem', x :: pop, v2, by rw [show wrongOf (some b) (x :: pop) = ((x != b) || wrongOf (some b) pop) from rfl, hw]; simp, by go_num, by omega, ⟨Nat.le_refl _⟩, ⟨by rw [HX.out]; simp⟩, ⟨by simp [HPL.out]⟩, ⟨(HFr.out.trans HF2.out (by simp)).setCell _ _ (.inr (by simpa using s6))⟩, ⟨HS2.out.fr (Fr.set _ _ _) (by simp; omega) (by simp; omega) (fun k hk => by rw [HO2.out, HV'.out] at hk; have := HS0.out.row.lt k hk; simp; omega)⟩, ⟨HO2.out.trans HV'.out⟩, ⟨blk_to (blk_set H12b.out 0 _) rfl⟩, ⟨at_far H10b.out (by simp; omega) _⟩, ⟨at_far (HF2.out.blk HBr.out (by simp; omega)) (by simp; omega) _⟩⟩
    | false =>
     go_wp2_with (first | (go_at_call 160; (refine (pop_agg p _ _ rem' x _ HSt.out.blk HSt.out.row).mono ?_); rintro e w' ⟨v2, rfl, hF2, hb2, hr2, ho2⟩; have HF2 := AsM hF2; have HS2 := AsM (HSt.out.popped hF2 hb2 hr2); have HO2 := AsM ho2; have H12b := AsM (hF2.blk H12.out (by simp; omega)); have hg12b := blk_cell H12b.out 0; have hz12b := blk_frozen H12b.out 0; have H10b := AsM (hF2.blk H10r.out (by simp; omega)); have hg10b := blk_cell H10b.out 0; have hlt10b := blk_lt H10b.out; clear hF2 hb2 hr2 ho2))
     all_goals (
      go_roundg (t - (j + 1))
      case measure => have := HM.out; omega
      case rel =>
       have s6 := HF6.out.size
       have hr0 := blk_lt HS0.out.mp
       exact ⟨j + 1, rem', x :: pop, v2, by rw [show wrongOf (some b) (x :: pop) = ((x != b) || wrongOf (some b) pop) from rfl, hw]; simp [*], by go_num, by omega, ⟨Nat.le_refl _⟩, ⟨by rw [HX.out]; simp⟩, ⟨by simp [HPL.out]⟩, ⟨(HFr.out.trans HF2.out (by simp)).setCell _ _ (.inr (by simpa using s6))⟩, ⟨HS2.out.fr (Fr.set _ _ _) (by simp; omega) (by simp; omega) (fun k hk => by rw [HO2.out, HV'.out] at hk; have := HS0.out.row.lt k hk; simp; omega)⟩, ⟨HO2.out.trans HV'.out⟩, ⟨blk_to (blk_set H12b.out 0 _) (by first | rfl | simp [*])⟩, ⟨at_far H10b.out (by simp; omega) _⟩, ⟨at_far (HF2.out.blk HBr.out (by simp; omega)) (by simp; omega) _⟩⟩)
  ·obtain rfl : j = t := by omega
   have n3 : decide (j < j) = false := by simp
   have HD : Aside0 (xs.drop (xs.length - j) = pop) := ⟨by rw [HX.out, List.length_append, HPL.out, Nat.add_sub_cancel]; simp⟩
   have HK : Aside0 (xs.take (xs.length - j) = rem) := ⟨by rw [HX.out, List.length_append, HPL.out, Nat.add_sub_cancel]; simp⟩
   have hF' : Fr w wr (p :: (Value.slice SA xs.length sc).ownBlock.toList) := HFr.out.mono (by simp)
   have HF' := AsM hF'
   clear hF'
   obtain ⟨hgb, hgb1, hgb2⟩ := cc3 HBr.out
   have hltb := blk_lt HBr.out
   have hg12 := blk_cell H12.out 0
   clear t0 t1
   cases hw : wrongOf wt pop with
   | true =>
    go_wp2
    go_ret
    have e : applyE wt j (0) A B day xs (look es) = 143 := by unfold applyE; rw [if_neg (fun h => HNE.out h), HD.out, hw]; rfl
    exact ⟨by rw [e]; rfl, HF'.out.mid, fun h => absurd (e.symm.trans h) (by decide)⟩
   | false =>
    have HW2 : Aside0 (wrongOf wt pop = false) := ⟨hw⟩
    clear hw
    go_wp2
    have HU := AsM (show u ≤ 1 from hu1)
    clear hg12
    go_loopg [119] u (fun kq b wq => ∃ (k : Nat) (vq : Value), b = .int .i64 k ∧ k ≤ u ∧ Aside0 (u - k ≤ kq) ∧ Aside0 (Fr w wq (p :: (Value.slice SA xs.length sc).ownBlock.toList)) ∧ Aside0 (St wq p vq r (rem ++ List.replicate k (givesB (0))) es clk) ∧ Aside0 (vq.ownBlock = (Value.slice SA xs.length sc).ownBlock ∨ ∃ g, vq.ownBlock = some g ∧ w.heap.size < g) ∧ Aside0 (wq.heap[w.heap.size]? = some (.cells #[.int .i64 (0), .int .i64 A, .int .i64 B] 113 (0, 0))))
    case atStart => exact ⟨0, v', rfl, Nat.zero_le _, ⟨Nat.le_refl _⟩, HF', ⟨by simpa using HSt.out⟩, ⟨.inl HV'.out⟩, HBr⟩
    case round =>
     obtain ⟨k, vq, rfl, hk, HMq, HFq, HSq, HVq, HBq⟩ := hrel
     clear hgb hgb1 hgb2 hltb
     have hgb := blk_cell HBq.out 0
     have hltb := blk_lt HBq.out
     by_cases hku : k < u
     ·have n4 : decide (k < u) = true := by simpa using hku
      have HNQ : Aside0 (w.heap.size ∉ p :: vq.ownBlock.toList) := ⟨by
       intro hm
       rcases List.mem_cons.1 hm with h | h
       ·omega
       ·have h' : vq.ownBlock = some w.heap.size := by simpa using h
        rcases HVq.out with h1 | ⟨g, h1, h2⟩
        ·have := HS0.out.row.lt _ (h1.symm.trans h'); omega
        ·rw [h1] at h'; cases h'; omega⟩
      have HTq := AsM (HG.out.fr HFq.out.mid hbig)
      go_wp2
      go_region_held3 (fun w' => w'.cell? ⟨w.heap.size, 0, none⟩ = some (.int .i64 (0))) (first | exact hgbA | exact hgbB | go_keep) (first | (go_simp; go_at_call 162; (refine (gives_calls (0) _ (HTq.out.fr0 FQ)).mono ?_); rintro e w' ⟨rfl, hFA⟩; have HSA := AsM (HSq.out.new (Fr.trans (M := []) FQ hFA (by simp))); have HBA := AsM (hFA.blk (g := w.heap.size) (by (with_reducible (repeat (first | apply blk_drew | apply blk_alloc | apply blk_set))); exact HBq.out) (by simp)); have hgbA := blk_cell HBA.out 0; have hFAS := HFq.out.size; have hFAT := hFA.size; have HFA := AsM (HFq.out.trans (c := w') (M := []) (Fr.trans (M := []) FQ hFA (by simp)) (by simp)); clear hFA) | (go_simp; go_at_call 161; (refine (push_agg p _ _ (rem ++ List.replicate k (givesB (0))) _ _ HSA.out.blk HSA.out.row (by have h1 := congrArg List.length HX.out; have h2 := HPL.out; simp at h1 ⊢; omega)).mono ?_); rintro e w' ⟨v3, rfl, hF3, hb3, hr3, ho3⟩; have hgbB := blk_cell (hF3.blk (g := w.heap.size) (by (with_reducible (repeat (first | apply blk_drew | apply blk_alloc | apply blk_set))); exact HBA.out) HNQ.out) 0; have HBB := AsM (hF3.blk (g := w.heap.size) (by (with_reducible (repeat (first | apply blk_drew | apply blk_alloc | apply blk_set))); exact HBA.out) HNQ.out); have HS4 := AsM (HSA.out.pushed hF3 hb3 hr3); have HO4 := AsM ho3; have HFS := AsM hF3; have hszA := hFAS; clear hF3 hb3 hr3 ho3))
      all_goals (
       go_wp2
       go_roundg (u - (k + 1))
       case measure => have := HMq.out; omega
       case rel =>
        refine ⟨k + 1, v3, by go_num, by omega, ⟨Nat.le_refl _⟩, ⟨?_⟩, ⟨by rw [List.replicate_succ', ← List.append_assoc]; exact HS4.out⟩, ⟨?_⟩, HBB⟩
        ·exact HFA.out.trans (HFS.out) (fun i hi => by
          rcases List.mem_cons.1 hi with h | h
          ·exact .inl (by simp [h])
          ·rcases HVq.out with h1 | ⟨g, h1, h2⟩
           ·rw [h1] at h; exact .inl (List.mem_cons_of_mem _ h)
           ·rw [h1] at h; simp at h; exact .inr (by omega))
        ·rcases HO4.out with h | ⟨g, h, hg⟩
         ·rw [h]; exact HVq.out
         ·exact .inr ⟨g, h, Nat.lt_of_lt_of_le (blk_lt HBA.out) hg⟩)
     ·obtain rfl : k = u := by omega
      have n4 : decide (k < k) = false := by simp
      go_wp2
      go_ret
      have e : applyE wt j (0) A B day xs (look es) = 0 := by
       unfold applyE
       rw [if_neg HNE.out, HD.out, HW2.out]
       simp
      refine ⟨by rw [e]; rfl, HFq.out.mid, fun _ => ⟨vq, es, clk, ?_, fun kk => ?_, ?_⟩⟩
      ·rw [show applyX j k (0) A xs (look es) = rem ++ List.replicate k (givesB (0)) by unfold applyX; rw [HK.out]; simp]
       exact HSq.out
      ·unfold applyK; simp
      ·rcases HVq.out with h | ⟨g, h, hg⟩
       ·exact .inl h
       ·exact .inr ⟨g, h, by omega⟩
theorem apply_obs (wt : Option Bool) (hwt : look wantsEs (3) = wt) (t u : Nat) (HE : ∀ W, TabW W → Calls Tryz.prog 158 #[.int .i64 (3)] W fun e w' => e = .returned (.tuple #[.int .i64 t, .int .i64 u, .int .i64 0]) ∧ Drawn0 W w') (ht3 : t ≤ 3) (hu1 : u ≤ 1) (A B day : Int) (p r clk : Nat) (v : Value) (xs : List Bool) (es : Es Bool) (w : World) (hs : St w p v r xs es clk) (hl : xs.length + 1 ≤ 140737488355328) (G : TabW w) (hbig : ∀ b ∈ p :: r :: v.ownBlock.toList, 3 < b) (hE : t ≤ xs.length) :
  Calls Tryz.prog 137 #[.pointer (some ⟨p, 0, none⟩), .agg #[.int .i64 (3), .int .i64 A, .int .i64 B], .int .i64 day] w (ApplyPost wt t u (3) A B day p r xs es v w) := by
 obtain ⟨SA, sc, rfl, hr⟩ := hs.row.slice
 have hlt := blk_lt hs.blk
 have c0 := blk_cell hs.blk 0
 have c1 := blk_cell hs.blk 1
 have HS0 := AsM hs
 have HG := AsM G
 have HE' := AsM HE
 have HW := AsM hwt
 have n1 : decide (xs.length < t) = false := by simp; omega
 have HNE : Aside0 (NE t (3) xs.length) := ⟨by unfold NE; omega⟩
 clear hs hr G HE hwt
 go_enter Tryz.func137, Tryz.ntmps137
 go_upto_region 4 with (first | (go_at_call 158; (with_reducible refine (HE'.out _ ?tab).mono ?_); (case tab => exact HG.out.fr0 FQ); rintro e w' ⟨rfl, ⟨nd, rfl⟩⟩))
 go_cut [43] (fun b wx => b = .bool false ∧ Aside0 (Fr w wx []) ∧ Aside0 (wx.heap[w.heap.size]? = some (.cells #[.int .i64 (3), .int .i64 A, .int .i64 B] 113 (0, 0))))
 case first =>
  go_wp2_with (first | (go_at_call 134; (refine (height_fr p _ _ _ _ HS0.out.blk (by (with_reducible (repeat (first | refine Fr.drew ?_ | refine Fr.drewN ?_ _ | refine Fr.alloc ?_ _ | refine Fr.setCell ?_ _ _ ?_))); exact Fr.refl _ _)).mono ?_); rintro e w' ⟨rfl, ⟨nd2, rfl⟩⟩))
  all_goals (
   go_meet
   refine ⟨?_, ⟨FQ⟩, ⟨(by (with_reducible (repeat (first | apply blk_drew | apply blk_alloc | apply blk_set))); exact blk_newN rfl)⟩⟩
   first | rfl | (simp [*]; done) | (simp; omega))
 case rest =>
 obtain ⟨rfl, HF, HBX⟩ := hcut
 clear n1
 go_upto_region 6 with fail
 go_cut [10, 11] (fun a b wx => ∃ g10 : Nat, a = .pointer (some ⟨g10, 0, none⟩) ∧ b = .bool wt.isSome ∧ Aside0 (wx.heap[g10]? = some (.cells #[.bool (wt.getD false)] 251 (0, 0))) ∧ w.heap.size < g10 ∧ Aside0 (Fr w wx []) ∧ Aside0 (wx.heap[w.heap.size]? = some (.cells #[.int .i64 (3), .int .i64 A, .int .i64 B] 113 (0, 0))))
 case first =>
  have HBC := blk_cell HBX.out 0
  have hbxlt := blk_lt HBX.out
  go_region_held3 (fun w' => w'.cell? ⟨w.heap.size, 0, none⟩ = some (.int .i64 (3))) (first | exact HBC9 | exact cell_far HBC9 (by simp; omega) | go_keep) (first | (go_simp; go_at_call 159; (refine (wants_calls _ (HG.out.fr0 (by (with_reducible (repeat (first | refine Fr.drew ?_ | refine Fr.drewN ?_ _ | refine Fr.alloc ?_ _ | refine Fr.setCell ?_ _ _ ?_))); exact HF.out))).mono ?_); rintro e w' ⟨r9, rfl, hF9, hM9, hr9⟩; have HF9 := AsM hF9; have HM9 := AsM hM9; have HB9 := AsM (hF9.blk (g := w.heap.size) (by (with_reducible (repeat (first | apply blk_drew | apply blk_alloc | apply blk_set))); exact HBX.out) (by simp)); have HBC9 := blk_cell HB9.out 0; have hb9lt := blk_lt HB9.out; have HBF9 := AsM ((Fr.trans HF.out (c := w') (M := []) (by refine Fr.trans (M := []) ?_ hF9 (by simp); (with_reducible (repeat (first | refine Fr.drew ?_ | refine Fr.drewN ?_ _ | refine Fr.alloc ?_ _ | refine Fr.setCell ?_ _ _ ?_))); exact Fr.refl _ _) (by simp))); (try (have HA9 := AsM (hF9.blk (g := wc.heap.size) (o := .cells #[.bool false] 251) (by first | exact blk_newN rfl | exact blk_drew (blk_newN rfl)) (by simp)); have HAC9 := blk_cell HA9.out 0; have HAZ9 := blk_frozen HA9.out 0)); have hlk := look_run (3) hM9; have hlk2 := look_run (3) (blk_alloc hM9 (.cells #[.bool false] 251)); rw [HW.out] at hlk hlk2; clear hF9 hM9))
  all_goals (
   go_wp2_with fail
   go_meet
   refine ⟨_, rfl, rfl, ⟨?_⟩, ?_, ⟨?_⟩, ⟨?_⟩⟩
   ·first | exact blk_newN rfl | exact blk_to (blk_set HA9.out 0 _) rfl
   ·first | exact hb9lt | exact hbxlt
   ·(with_reducible (repeat (first | refine Fr.drew ?_ | refine Fr.drewN ?_ _ | refine Fr.alloc ?_ _ | refine Fr.setCell ?_ _ _ ?_))) <;> first | exact HBF9.out | (simp; omega)
   ·first | exact blk_alloc HB9.out _ | exact at_far HB9.out (by simp; omega) _)
 case rest =>
 obtain ⟨g10, rfl, rfl, H10, h10, HF6, HB6⟩ := hcut
 clear HF HBX
 have HT6 := HG.out.fr0 HF6.out
 have t0 := HT6.num
 have t1 : 2 < wc.heap.size := by have := HT6.lt; omega
 clear HT6
 have hlt6 := blk_lt H10.out
 have hut := Tryz.underlying251
 go_wp2
 go_loopg [13, 53] t (fun kq a b wr => ∃ (j : Nat) (rem pop : List Bool) (v' : Value), a = .bool (wrongOf wt pop) ∧ b = .int .i64 j ∧ j ≤ t ∧ Aside0 (t - j ≤ kq) ∧ Aside0 (xs = rem ++ pop) ∧ Aside0 (pop.length = j) ∧ Aside0 (Fr w wr [p]) ∧ Aside0 (St wr p v' r rem es clk) ∧ Aside0 (v'.ownBlock = (Value.slice SA xs.length sc).ownBlock) ∧ Aside0 (wr.heap[wc.heap.size]? = some (.cells #[.bool (pop.headD false)] 251 (0, 0))) ∧ Aside0 (wr.heap[g10]? = some (.cells #[.bool (wt.getD false)] 251 (0, 0))) ∧ Aside0 (wr.heap[w.heap.size]? = some (.cells #[.int .i64 (3), .int .i64 A, .int .i64 B] 113 (0, 0))))
 case atStart => exact ⟨0, xs, [], _, (by cases wt <;> rfl), rfl, Nat.zero_le _, ⟨Nat.le_refl _⟩, ⟨by simp⟩, ⟨rfl⟩, ⟨(HF6.out.alloc _).mono (by simp)⟩, ⟨HS0.out.new (HF6.out.alloc _)⟩, ⟨rfl⟩, ⟨blk_newN rfl⟩, ⟨blk_alloc H10.out _⟩, ⟨blk_alloc HB6.out _⟩⟩
 case round =>
  obtain ⟨j, rem, pop, v', rfl, rfl, hj, HM, HX, HPL, HFr, HSt, HV', H12, H10r, HBr⟩ := hrel
  by_cases hjt : j < t
  ·obtain ⟨rem', x, rfl⟩ : ∃ rem' x, rem = rem' ++ [x] := by
    have h1 := HX.out; have h2 := HPL.out
    have : rem ≠ [] := by rintro rfl; simp at h1; subst h1; omega
    exact ⟨rem.dropLast, rem.getLast this, (List.dropLast_concat_getLast this).symm⟩
   have hne := HSt.out.row.ne HSt.out.blk (by decide)
   have n3 : decide (j < t) = true := by simpa using hjt
   have hg12 := blk_cell H12.out 0
   have hz12 := blk_frozen H12.out 0
   have hlt12 := blk_lt H12.out
   clear t0 t1
   cases wt with
   | none =>
    ·rw [show wrongOf none pop = false from rfl]
     go_wp2_with (first | (go_at_call 160; (refine (pop_agg p _ _ rem' x _ HSt.out.blk HSt.out.row).mono ?_); rintro e w' ⟨v2, rfl, hF2, hb2, hr2, ho2⟩; have HF2 := AsM hF2; have HS2 := AsM (HSt.out.popped hF2 hb2 hr2); have HO2 := AsM ho2; have H12b := AsM (hF2.blk H12.out (by simp; omega)); have hg12b := blk_cell H12b.out 0; have hz12b := blk_frozen H12b.out 0; have H10b := AsM (hF2.blk H10r.out (by simp; omega)); have hg10b := blk_cell H10b.out 0; have hlt10b := blk_lt H10b.out; clear hF2 hb2 hr2 ho2))
     go_roundg (t - (j + 1))
     case measure => have := HM.out; omega
     case rel =>
      have s6 := HF6.out.size
      have hr0 := blk_lt HS0.out.mp
      exact ⟨j + 1, rem', x :: pop, v2, rfl, by go_num, by omega, ⟨Nat.le_refl _⟩, ⟨by rw [HX.out]; simp⟩, ⟨by simp [HPL.out]⟩, ⟨(HFr.out.trans HF2.out (by simp)).setCell _ _ (.inr (by simpa using s6))⟩, ⟨HS2.out.fr (Fr.set _ _ _) (by simp; omega) (by simp; omega) (fun k hk => by rw [HO2.out, HV'.out] at hk; have := HS0.out.row.lt k hk; simp; omega)⟩, ⟨HO2.out.trans HV'.out⟩, ⟨blk_to (blk_set H12b.out 0 _) rfl⟩, ⟨at_far H10b.out (by simp; omega) _⟩, ⟨at_far (HF2.out.blk HBr.out (by simp; omega)) (by simp; omega) _⟩⟩
   | some b =>
    cases hw : wrongOf (some b) pop with
    | true =>
     go_wp2_with (first | (go_at_call 160; (refine (pop_agg p _ _ rem' x _ HSt.out.blk HSt.out.row).mono ?_); rintro e w' ⟨v2, rfl, hF2, hb2, hr2, ho2⟩; have HF2 := AsM hF2; have HS2 := AsM (HSt.out.popped hF2 hb2 hr2); have HO2 := AsM ho2; have H12b := AsM (hF2.blk H12.out (by simp; omega)); have hg12b := blk_cell H12b.out 0; have hz12b := blk_frozen H12b.out 0; have H10b := AsM (hF2.blk H10r.out (by simp; omega)); have hg10b := blk_cell H10b.out 0; have hlt10b := blk_lt H10b.out; clear hF2 hb2 hr2 ho2))
     go_roundg (t - (j + 1))
     case measure => have := HM.out; omega
     case rel =>
      have s6 := HF6.out.size
      have hr0 := blk_lt HS0.out.mp
      exact ⟨j + 1, rem', x :: pop, v2, by rw [show wrongOf (some b) (x :: pop) = ((x != b) || wrongOf (some b) pop) from rfl, hw]; simp, by go_num, by omega, ⟨Nat.le_refl _⟩, ⟨by rw [HX.out]; simp⟩, ⟨by simp [HPL.out]⟩, ⟨(HFr.out.trans HF2.out (by simp)).setCell _ _ (.inr (by simpa using s6))⟩, ⟨HS2.out.fr (Fr.set _ _ _) (by simp; omega) (by simp; omega) (fun k hk => by rw [HO2.out, HV'.out] at hk; have := HS0.out.row.lt k hk; simp; omega)⟩, ⟨HO2.out.trans HV'.out⟩, ⟨blk_to (blk_set H12b.out 0 _) rfl⟩, ⟨at_far H10b.out (by simp; omega) _⟩, ⟨at_far (HF2.out.blk HBr.out (by simp; omega)) (by simp; omega) _⟩⟩
    | false =>
     go_wp2_with (first | (go_at_call 160; (refine (pop_agg p _ _ rem' x _ HSt.out.blk HSt.out.row).mono ?_); rintro e w' ⟨v2, rfl, hF2, hb2, hr2, ho2⟩; have HF2 := AsM hF2; have HS2 := AsM (HSt.out.popped hF2 hb2 hr2); have HO2 := AsM ho2; have H12b := AsM (hF2.blk H12.out (by simp; omega)); have hg12b := blk_cell H12b.out 0; have hz12b := blk_frozen H12b.out 0; have H10b := AsM (hF2.blk H10r.out (by simp; omega)); have hg10b := blk_cell H10b.out 0; have hlt10b := blk_lt H10b.out; clear hF2 hb2 hr2 ho2))
     all_goals (
      go_roundg (t - (j + 1))
      case measure => have := HM.out; omega
      case rel =>
       have s6 := HF6.out.size
       have hr0 := blk_lt HS0.out.mp
       exact ⟨j + 1, rem', x :: pop, v2, by rw [show wrongOf (some b) (x :: pop) = ((x != b) || wrongOf (some b) pop) from rfl, hw]; simp [*], by go_num, by omega, ⟨Nat.le_refl _⟩, ⟨by rw [HX.out]; simp⟩, ⟨by simp [HPL.out]⟩, ⟨(HFr.out.trans HF2.out (by simp)).setCell _ _ (.inr (by simpa using s6))⟩, ⟨HS2.out.fr (Fr.set _ _ _) (by simp; omega) (by simp; omega) (fun k hk => by rw [HO2.out, HV'.out] at hk; have := HS0.out.row.lt k hk; simp; omega)⟩, ⟨HO2.out.trans HV'.out⟩, ⟨blk_to (blk_set H12b.out 0 _) (by first | rfl | simp [*])⟩, ⟨at_far H10b.out (by simp; omega) _⟩, ⟨at_far (HF2.out.blk HBr.out (by simp; omega)) (by simp; omega) _⟩⟩)
  ·obtain rfl : j = t := by omega
   have n3 : decide (j < j) = false := by simp
   have HD : Aside0 (xs.drop (xs.length - j) = pop) := ⟨by rw [HX.out, List.length_append, HPL.out, Nat.add_sub_cancel]; simp⟩
   have HK : Aside0 (xs.take (xs.length - j) = rem) := ⟨by rw [HX.out, List.length_append, HPL.out, Nat.add_sub_cancel]; simp⟩
   have hF' : Fr w wr (p :: (Value.slice SA xs.length sc).ownBlock.toList) := HFr.out.mono (by simp)
   have HF' := AsM hF'
   clear hF'
   obtain ⟨hgb, hgb1, hgb2⟩ := cc3 HBr.out
   have hltb := blk_lt HBr.out
   have hg12 := blk_cell H12.out 0
   clear t0 t1
   cases hw : wrongOf wt pop with
   | true =>
    go_wp2
    go_ret
    have e : applyE wt j (3) A B day xs (look es) = 143 := by unfold applyE; rw [if_neg (fun h => HNE.out h), HD.out, hw]; rfl
    exact ⟨by rw [e]; rfl, HF'.out.mid, fun h => absurd (e.symm.trans h) (by decide)⟩
   | false =>
    have HW2 : Aside0 (wrongOf wt pop = false) := ⟨hw⟩
    clear hw
    by_cases hB : day < B
    ·have hBd : decide (day < B) = true := by simpa using hB
     go_wp2
     go_ret
     have e : applyE wt j (3) A B day xs (look es) = 145 := by
      unfold applyE
      rw [if_neg HNE.out, HD.out, HW2.out]
      simp [hB]
     exact ⟨by rw [e]; rfl, HF'.out.mid, fun h => absurd (e.symm.trans h) (by decide)⟩
    have hBd : decide (day < B) = false := by simpa using hB
    go_wp2
    have HU := AsM (show u ≤ 1 from hu1)
    clear hg12
    go_loopg [119] u (fun kq b wq => ∃ (k : Nat) (vq : Value), b = .int .i64 k ∧ k ≤ u ∧ Aside0 (u - k ≤ kq) ∧ Aside0 (Fr w wq (p :: (Value.slice SA xs.length sc).ownBlock.toList)) ∧ Aside0 (St wq p vq r (rem ++ List.replicate k (givesB (3))) es clk) ∧ Aside0 (vq.ownBlock = (Value.slice SA xs.length sc).ownBlock ∨ ∃ g, vq.ownBlock = some g ∧ w.heap.size < g) ∧ Aside0 (wq.heap[w.heap.size]? = some (.cells #[.int .i64 (3), .int .i64 A, .int .i64 B] 113 (0, 0))))
    case atStart => exact ⟨0, v', rfl, Nat.zero_le _, ⟨Nat.le_refl _⟩, HF', ⟨by simpa using HSt.out⟩, ⟨.inl HV'.out⟩, HBr⟩
    case round =>
     obtain ⟨k, vq, rfl, hk, HMq, HFq, HSq, HVq, HBq⟩ := hrel
     clear hgb hgb1 hgb2 hltb
     have hgb := blk_cell HBq.out 0
     have hltb := blk_lt HBq.out
     by_cases hku : k < u
     ·have n4 : decide (k < u) = true := by simpa using hku
      have HNQ : Aside0 (w.heap.size ∉ p :: vq.ownBlock.toList) := ⟨by
       intro hm
       rcases List.mem_cons.1 hm with h | h
       ·omega
       ·have h' : vq.ownBlock = some w.heap.size := by simpa using h
        rcases HVq.out with h1 | ⟨g, h1, h2⟩
        ·have := HS0.out.row.lt _ (h1.symm.trans h'); omega
        ·rw [h1] at h'; cases h'; omega⟩
      have HTq := AsM (HG.out.fr HFq.out.mid hbig)
      go_wp2
      go_region_held3 (fun w' => w'.cell? ⟨w.heap.size, 0, none⟩ = some (.int .i64 (3))) (first | exact hgbA | exact hgbB | go_keep) (first | (go_simp; go_at_call 162; (refine (gives_calls (3) _ (HTq.out.fr0 FQ)).mono ?_); rintro e w' ⟨rfl, hFA⟩; have HSA := AsM (HSq.out.new (Fr.trans (M := []) FQ hFA (by simp))); have HBA := AsM (hFA.blk (g := w.heap.size) (by (with_reducible (repeat (first | apply blk_drew | apply blk_alloc | apply blk_set))); exact HBq.out) (by simp)); have hgbA := blk_cell HBA.out 0; have hFAS := HFq.out.size; have hFAT := hFA.size; have HFA := AsM (HFq.out.trans (c := w') (M := []) (Fr.trans (M := []) FQ hFA (by simp)) (by simp)); clear hFA) | (go_simp; go_at_call 161; (refine (push_agg p _ _ (rem ++ List.replicate k (givesB (3))) _ _ HSA.out.blk HSA.out.row (by have h1 := congrArg List.length HX.out; have h2 := HPL.out; simp at h1 ⊢; omega)).mono ?_); rintro e w' ⟨v3, rfl, hF3, hb3, hr3, ho3⟩; have hgbB := blk_cell (hF3.blk (g := w.heap.size) (by (with_reducible (repeat (first | apply blk_drew | apply blk_alloc | apply blk_set))); exact HBA.out) HNQ.out) 0; have HBB := AsM (hF3.blk (g := w.heap.size) (by (with_reducible (repeat (first | apply blk_drew | apply blk_alloc | apply blk_set))); exact HBA.out) HNQ.out); have HS4 := AsM (HSA.out.pushed hF3 hb3 hr3); have HO4 := AsM ho3; have HFS := AsM hF3; have hszA := hFAS; clear hF3 hb3 hr3 ho3))
      all_goals (
       go_wp2
       go_roundg (u - (k + 1))
       case measure => have := HMq.out; omega
       case rel =>
        refine ⟨k + 1, v3, by go_num, by omega, ⟨Nat.le_refl _⟩, ⟨?_⟩, ⟨by rw [List.replicate_succ', ← List.append_assoc]; exact HS4.out⟩, ⟨?_⟩, HBB⟩
        ·exact HFA.out.trans (HFS.out) (fun i hi => by
          rcases List.mem_cons.1 hi with h | h
          ·exact .inl (by simp [h])
          ·rcases HVq.out with h1 | ⟨g, h1, h2⟩
           ·rw [h1] at h; exact .inl (List.mem_cons_of_mem _ h)
           ·rw [h1] at h; simp at h; exact .inr (by omega))
        ·rcases HO4.out with h | ⟨g, h, hg⟩
         ·rw [h]; exact HVq.out
         ·exact .inr ⟨g, h, Nat.lt_of_lt_of_le (blk_lt HBA.out) hg⟩)
     ·obtain rfl : k = u := by omega
      have n4 : decide (k < k) = false := by simp
      go_wp2
      go_ret
      have e : applyE wt j (3) A B day xs (look es) = 0 := by
       unfold applyE
       rw [if_neg HNE.out, HD.out, HW2.out]
       simp [hB]
      refine ⟨by rw [e]; rfl, HFq.out.mid, fun _ => ⟨vq, es, clk, ?_, fun kk => ?_, ?_⟩⟩
      ·rw [show applyX j k (3) A xs (look es) = rem ++ List.replicate k (givesB (3)) by unfold applyX; rw [HK.out]; simp]
       exact HSq.out
      ·unfold applyK; simp
      ·rcases HVq.out with h | ⟨g, h, hg⟩
       ·exact .inl h
       ·exact .inr ⟨g, h, by omega⟩
theorem apply_any (op : Int) (wt : Option Bool) (hwt : look wantsEs op = wt) (t u : Nat) (HE : ∀ W, TabW W → Calls Tryz.prog 158 #[.int .i64 op] W fun e w' => e = .returned (.tuple #[.int .i64 t, .int .i64 u, .int .i64 0]) ∧ Drawn0 W w') (ht3 : t ≤ 3) (hu1 : u ≤ 1) (A B day : Int) (p r clk : Nat) (v : Value) (xs : List Bool) (es : Es Bool) (w : World) (hs : St w p v r xs es clk) (hl : xs.length + 1 ≤ 140737488355328) (G : TabW w) (hbig : ∀ b ∈ p :: r :: v.ownBlock.toList, 3 < b) (hE : t ≤ xs.length) (e0 : (op == 0) = false) (e3 : (op == 3) = false) (e6 : (op == 6) = false) (e7 : (op == 7) = false) :
  Calls Tryz.prog 137 #[.pointer (some ⟨p, 0, none⟩), .agg #[.int .i64 op, .int .i64 A, .int .i64 B], .int .i64 day] w (ApplyPost wt t u op A B day p r xs es v w) := by
 obtain ⟨SA, sc, rfl, hr⟩ := hs.row.slice
 have hlt := blk_lt hs.blk
 have c0 := blk_cell hs.blk 0
 have c1 := blk_cell hs.blk 1
 have HS0 := AsM hs
 have HG := AsM G
 have HE' := AsM HE
 have HW := AsM hwt
 have n1 : decide (xs.length < t) = false := by simp; omega
 have HNE : Aside0 (NE t op xs.length) := ⟨by unfold NE; simp only [beq_eq_false_iff_ne, ne_eq] at e0; omega⟩
 clear hs hr G HE hwt
 go_enter Tryz.func137, Tryz.ntmps137
 go_upto_region 4 with (first | (go_at_call 158; (with_reducible refine (HE'.out _ ?tab).mono ?_); (case tab => exact HG.out.fr0 FQ); rintro e w' ⟨rfl, ⟨nd, rfl⟩⟩))
 go_cut [43] (fun b wx => b = .bool false ∧ Aside0 (Fr w wx []) ∧ Aside0 (wx.heap[w.heap.size]? = some (.cells #[.int .i64 op, .int .i64 A, .int .i64 B] 113 (0, 0))))
 case first =>
  go_wp2_with (first | (go_at_call 134; (refine (height_fr p _ _ _ _ HS0.out.blk (by (with_reducible (repeat (first | refine Fr.drew ?_ | refine Fr.drewN ?_ _ | refine Fr.alloc ?_ _ | refine Fr.setCell ?_ _ _ ?_))); exact Fr.refl _ _)).mono ?_); rintro e w' ⟨rfl, ⟨nd2, rfl⟩⟩))
  all_goals (
   go_meet
   refine ⟨?_, ⟨FQ⟩, ⟨(by (with_reducible (repeat (first | apply blk_drew | apply blk_alloc | apply blk_set))); exact blk_newN rfl)⟩⟩
   first | rfl | (simp [*]; done) | (simp; omega))
 case rest =>
 obtain ⟨rfl, HF, HBX⟩ := hcut
 clear n1
 go_upto_region 6 with fail
 go_cut [10, 11] (fun a b wx => ∃ g10 : Nat, a = .pointer (some ⟨g10, 0, none⟩) ∧ b = .bool wt.isSome ∧ Aside0 (wx.heap[g10]? = some (.cells #[.bool (wt.getD false)] 251 (0, 0))) ∧ w.heap.size < g10 ∧ Aside0 (Fr w wx []) ∧ Aside0 (wx.heap[w.heap.size]? = some (.cells #[.int .i64 op, .int .i64 A, .int .i64 B] 113 (0, 0))))
 case first =>
  have HBC := blk_cell HBX.out 0
  have hbxlt := blk_lt HBX.out
  go_region_held3 (fun w' => w'.cell? ⟨w.heap.size, 0, none⟩ = some (.int .i64 op)) (first | exact HBC9 | exact cell_far HBC9 (by simp; omega) | go_keep) (first | (go_simp; go_at_call 159; (refine (wants_calls _ (HG.out.fr0 (by (with_reducible (repeat (first | refine Fr.drew ?_ | refine Fr.drewN ?_ _ | refine Fr.alloc ?_ _ | refine Fr.setCell ?_ _ _ ?_))); exact HF.out))).mono ?_); rintro e w' ⟨r9, rfl, hF9, hM9, hr9⟩; have HF9 := AsM hF9; have HM9 := AsM hM9; have HB9 := AsM (hF9.blk (g := w.heap.size) (by (with_reducible (repeat (first | apply blk_drew | apply blk_alloc | apply blk_set))); exact HBX.out) (by simp)); have HBC9 := blk_cell HB9.out 0; have hb9lt := blk_lt HB9.out; have HBF9 := AsM ((Fr.trans HF.out (c := w') (M := []) (by refine Fr.trans (M := []) ?_ hF9 (by simp); (with_reducible (repeat (first | refine Fr.drew ?_ | refine Fr.drewN ?_ _ | refine Fr.alloc ?_ _ | refine Fr.setCell ?_ _ _ ?_))); exact Fr.refl _ _) (by simp))); (try (have HA9 := AsM (hF9.blk (g := wc.heap.size) (o := .cells #[.bool false] 251) (by first | exact blk_newN rfl | exact blk_drew (blk_newN rfl)) (by simp)); have HAC9 := blk_cell HA9.out 0; have HAZ9 := blk_frozen HA9.out 0)); have hlk := look_run op hM9; have hlk2 := look_run op (blk_alloc hM9 (.cells #[.bool false] 251)); rw [HW.out] at hlk hlk2; clear hF9 hM9))
  all_goals (
   go_wp2_with fail
   go_meet
   refine ⟨_, rfl, rfl, ⟨?_⟩, ?_, ⟨?_⟩, ⟨?_⟩⟩
   ·first | exact blk_newN rfl | exact blk_to (blk_set HA9.out 0 _) rfl
   ·first | exact hb9lt | exact hbxlt
   ·(with_reducible (repeat (first | refine Fr.drew ?_ | refine Fr.drewN ?_ _ | refine Fr.alloc ?_ _ | refine Fr.setCell ?_ _ _ ?_))) <;> first | exact HBF9.out | (simp; omega)
   ·first | exact blk_alloc HB9.out _ | exact at_far HB9.out (by simp; omega) _)
 case rest =>
 obtain ⟨g10, rfl, rfl, H10, h10, HF6, HB6⟩ := hcut
 clear HF HBX
 have HT6 := HG.out.fr0 HF6.out
 have t0 := HT6.num
 have t1 : 2 < wc.heap.size := by have := HT6.lt; omega
 clear HT6
 have hlt6 := blk_lt H10.out
 have hut := Tryz.underlying251
 go_wp2
 go_loopg [13, 53] t (fun kq a b wr => ∃ (j : Nat) (rem pop : List Bool) (v' : Value), a = .bool (wrongOf wt pop) ∧ b = .int .i64 j ∧ j ≤ t ∧ Aside0 (t - j ≤ kq) ∧ Aside0 (xs = rem ++ pop) ∧ Aside0 (pop.length = j) ∧ Aside0 (Fr w wr [p]) ∧ Aside0 (St wr p v' r rem es clk) ∧ Aside0 (v'.ownBlock = (Value.slice SA xs.length sc).ownBlock) ∧ Aside0 (wr.heap[wc.heap.size]? = some (.cells #[.bool (pop.headD false)] 251 (0, 0))) ∧ Aside0 (wr.heap[g10]? = some (.cells #[.bool (wt.getD false)] 251 (0, 0))) ∧ Aside0 (wr.heap[w.heap.size]? = some (.cells #[.int .i64 op, .int .i64 A, .int .i64 B] 113 (0, 0))))
 case atStart => exact ⟨0, xs, [], _, (by cases wt <;> rfl), rfl, Nat.zero_le _, ⟨Nat.le_refl _⟩, ⟨by simp⟩, ⟨rfl⟩, ⟨(HF6.out.alloc _).mono (by simp)⟩, ⟨HS0.out.new (HF6.out.alloc _)⟩, ⟨rfl⟩, ⟨blk_newN rfl⟩, ⟨blk_alloc H10.out _⟩, ⟨blk_alloc HB6.out _⟩⟩
 case round =>
  obtain ⟨j, rem, pop, v', rfl, rfl, hj, HM, HX, HPL, HFr, HSt, HV', H12, H10r, HBr⟩ := hrel
  by_cases hjt : j < t
  ·obtain ⟨rem', x, rfl⟩ : ∃ rem' x, rem = rem' ++ [x] := by
    have h1 := HX.out; have h2 := HPL.out
    have : rem ≠ [] := by rintro rfl; simp at h1; subst h1; omega
    exact ⟨rem.dropLast, rem.getLast this, (List.dropLast_concat_getLast this).symm⟩
   have hne := HSt.out.row.ne HSt.out.blk (by decide)
   have n3 : decide (j < t) = true := by simpa using hjt
   have hg12 := blk_cell H12.out 0
   have hz12 := blk_frozen H12.out 0
   have hlt12 := blk_lt H12.out
   clear t0 t1
   cases wt with
   | none =>
    ·rw [show wrongOf none pop = false from rfl]
     go_wp2_with (first | (go_at_call 160; (refine (pop_agg p _ _ rem' x _ HSt.out.blk HSt.out.row).mono ?_); rintro e w' ⟨v2, rfl, hF2, hb2, hr2, ho2⟩; have HF2 := AsM hF2; have HS2 := AsM (HSt.out.popped hF2 hb2 hr2); have HO2 := AsM ho2; have H12b := AsM (hF2.blk H12.out (by simp; omega)); have hg12b := blk_cell H12b.out 0; have hz12b := blk_frozen H12b.out 0; have H10b := AsM (hF2.blk H10r.out (by simp; omega)); have hg10b := blk_cell H10b.out 0; have hlt10b := blk_lt H10b.out; clear hF2 hb2 hr2 ho2))
     go_roundg (t - (j + 1))
     case measure => have := HM.out; omega
     case rel =>
      have s6 := HF6.out.size
      have hr0 := blk_lt HS0.out.mp
      exact ⟨j + 1, rem', x :: pop, v2, rfl, by go_num, by omega, ⟨Nat.le_refl _⟩, ⟨by rw [HX.out]; simp⟩, ⟨by simp [HPL.out]⟩, ⟨(HFr.out.trans HF2.out (by simp)).setCell _ _ (.inr (by simpa using s6))⟩, ⟨HS2.out.fr (Fr.set _ _ _) (by simp; omega) (by simp; omega) (fun k hk => by rw [HO2.out, HV'.out] at hk; have := HS0.out.row.lt k hk; simp; omega)⟩, ⟨HO2.out.trans HV'.out⟩, ⟨blk_to (blk_set H12b.out 0 _) rfl⟩, ⟨at_far H10b.out (by simp; omega) _⟩, ⟨at_far (HF2.out.blk HBr.out (by simp; omega)) (by simp; omega) _⟩⟩
   | some b =>
    cases hw : wrongOf (some b) pop with
    | true =>
     go_wp2_with (first | (go_at_call 160; (refine (pop_agg p _ _ rem' x _ HSt.out.blk HSt.out.row).mono ?_); rintro e w' ⟨v2, rfl, hF2, hb2, hr2, ho2⟩; have HF2 := AsM hF2; have HS2 := AsM (HSt.out.popped hF2 hb2 hr2); have HO2 := AsM ho2; have H12b := AsM (hF2.blk H12.out (by simp; omega)); have hg12b := blk_cell H12b.out 0; have hz12b := blk_frozen H12b.out 0; have H10b := AsM (hF2.blk H10r.out (by simp; omega)); have hg10b := blk_cell H10b.out 0; have hlt10b := blk_lt H10b.out; clear hF2 hb2 hr2 ho2))
     go_roundg (t - (j + 1))
     case measure => have := HM.out; omega
     case rel =>
      have s6 := HF6.out.size
      have hr0 := blk_lt HS0.out.mp
      exact ⟨j + 1, rem', x :: pop, v2, by rw [show wrongOf (some b) (x :: pop) = ((x != b) || wrongOf (some b) pop) from rfl, hw]; simp, by go_num, by omega, ⟨Nat.le_refl _⟩, ⟨by rw [HX.out]; simp⟩, ⟨by simp [HPL.out]⟩, ⟨(HFr.out.trans HF2.out (by simp)).setCell _ _ (.inr (by simpa using s6))⟩, ⟨HS2.out.fr (Fr.set _ _ _) (by simp; omega) (by simp; omega) (fun k hk => by rw [HO2.out, HV'.out] at hk; have := HS0.out.row.lt k hk; simp; omega)⟩, ⟨HO2.out.trans HV'.out⟩, ⟨blk_to (blk_set H12b.out 0 _) rfl⟩, ⟨at_far H10b.out (by simp; omega) _⟩, ⟨at_far (HF2.out.blk HBr.out (by simp; omega)) (by simp; omega) _⟩⟩
    | false =>
     go_wp2_with (first | (go_at_call 160; (refine (pop_agg p _ _ rem' x _ HSt.out.blk HSt.out.row).mono ?_); rintro e w' ⟨v2, rfl, hF2, hb2, hr2, ho2⟩; have HF2 := AsM hF2; have HS2 := AsM (HSt.out.popped hF2 hb2 hr2); have HO2 := AsM ho2; have H12b := AsM (hF2.blk H12.out (by simp; omega)); have hg12b := blk_cell H12b.out 0; have hz12b := blk_frozen H12b.out 0; have H10b := AsM (hF2.blk H10r.out (by simp; omega)); have hg10b := blk_cell H10b.out 0; have hlt10b := blk_lt H10b.out; clear hF2 hb2 hr2 ho2))
     all_goals (
      go_roundg (t - (j + 1))
      case measure => have := HM.out; omega
      case rel =>
       have s6 := HF6.out.size
       have hr0 := blk_lt HS0.out.mp
       exact ⟨j + 1, rem', x :: pop, v2, by rw [show wrongOf (some b) (x :: pop) = ((x != b) || wrongOf (some b) pop) from rfl, hw]; simp [*], by go_num, by omega, ⟨Nat.le_refl _⟩, ⟨by rw [HX.out]; simp⟩, ⟨by simp [HPL.out]⟩, ⟨(HFr.out.trans HF2.out (by simp)).setCell _ _ (.inr (by simpa using s6))⟩, ⟨HS2.out.fr (Fr.set _ _ _) (by simp; omega) (by simp; omega) (fun k hk => by rw [HO2.out, HV'.out] at hk; have := HS0.out.row.lt k hk; simp; omega)⟩, ⟨HO2.out.trans HV'.out⟩, ⟨blk_to (blk_set H12b.out 0 _) (by first | rfl | simp [*])⟩, ⟨at_far H10b.out (by simp; omega) _⟩, ⟨at_far (HF2.out.blk HBr.out (by simp; omega)) (by simp; omega) _⟩⟩)
  ·obtain rfl : j = t := by omega
   have n3 : decide (j < j) = false := by simp
   have HD : Aside0 (xs.drop (xs.length - j) = pop) := ⟨by rw [HX.out, List.length_append, HPL.out, Nat.add_sub_cancel]; simp⟩
   have HK : Aside0 (xs.take (xs.length - j) = rem) := ⟨by rw [HX.out, List.length_append, HPL.out, Nat.add_sub_cancel]; simp⟩
   have hF' : Fr w wr (p :: (Value.slice SA xs.length sc).ownBlock.toList) := HFr.out.mono (by simp)
   have HF' := AsM hF'
   clear hF'
   obtain ⟨hgb, hgb1, hgb2⟩ := cc3 HBr.out
   have hltb := blk_lt HBr.out
   have hg12 := blk_cell H12.out 0
   clear t0 t1
   cases hw : wrongOf wt pop with
   | true =>
    go_wp2
    go_ret
    have e : applyE wt j op A B day xs (look es) = 143 := by unfold applyE; rw [if_neg (fun h => HNE.out h), HD.out, hw]; rfl
    exact ⟨by rw [e]; rfl, HF'.out.mid, fun h => absurd (e.symm.trans h) (by decide)⟩
   | false =>
    have HW2 : Aside0 (wrongOf wt pop = false) := ⟨hw⟩
    clear hw
    go_wp2
    have HU := AsM (show u ≤ 1 from hu1)
    clear hg12
    go_loopg [119] u (fun kq b wq => ∃ (k : Nat) (vq : Value), b = .int .i64 k ∧ k ≤ u ∧ Aside0 (u - k ≤ kq) ∧ Aside0 (Fr w wq (p :: (Value.slice SA xs.length sc).ownBlock.toList)) ∧ Aside0 (St wq p vq r (rem ++ List.replicate k (givesB op)) es clk) ∧ Aside0 (vq.ownBlock = (Value.slice SA xs.length sc).ownBlock ∨ ∃ g, vq.ownBlock = some g ∧ w.heap.size < g) ∧ Aside0 (wq.heap[w.heap.size]? = some (.cells #[.int .i64 op, .int .i64 A, .int .i64 B] 113 (0, 0))))
    case atStart => exact ⟨0, v', rfl, Nat.zero_le _, ⟨Nat.le_refl _⟩, HF', ⟨by simpa using HSt.out⟩, ⟨.inl HV'.out⟩, HBr⟩
    case round =>
     obtain ⟨k, vq, rfl, hk, HMq, HFq, HSq, HVq, HBq⟩ := hrel
     clear hgb hgb1 hgb2 hltb
     have hgb := blk_cell HBq.out 0
     have hltb := blk_lt HBq.out
     by_cases hku : k < u
     ·have n4 : decide (k < u) = true := by simpa using hku
      have HNQ : Aside0 (w.heap.size ∉ p :: vq.ownBlock.toList) := ⟨by
       intro hm
       rcases List.mem_cons.1 hm with h | h
       ·omega
       ·have h' : vq.ownBlock = some w.heap.size := by simpa using h
        rcases HVq.out with h1 | ⟨g, h1, h2⟩
        ·have := HS0.out.row.lt _ (h1.symm.trans h'); omega
        ·rw [h1] at h'; cases h'; omega⟩
      have HTq := AsM (HG.out.fr HFq.out.mid hbig)
      go_wp2
      go_region_held3 (fun w' => w'.cell? ⟨w.heap.size, 0, none⟩ = some (.int .i64 op)) (first | exact hgbA | exact hgbB | go_keep) (first | (go_simp; go_at_call 162; (refine (gives_calls op _ (HTq.out.fr0 FQ)).mono ?_); rintro e w' ⟨rfl, hFA⟩; have HSA := AsM (HSq.out.new (Fr.trans (M := []) FQ hFA (by simp))); have HBA := AsM (hFA.blk (g := w.heap.size) (by (with_reducible (repeat (first | apply blk_drew | apply blk_alloc | apply blk_set))); exact HBq.out) (by simp)); have hgbA := blk_cell HBA.out 0; have hFAS := HFq.out.size; have hFAT := hFA.size; have HFA := AsM (HFq.out.trans (c := w') (M := []) (Fr.trans (M := []) FQ hFA (by simp)) (by simp)); clear hFA) | (go_simp; go_at_call 161; (refine (push_agg p _ _ (rem ++ List.replicate k (givesB op)) _ _ HSA.out.blk HSA.out.row (by have h1 := congrArg List.length HX.out; have h2 := HPL.out; simp at h1 ⊢; omega)).mono ?_); rintro e w' ⟨v3, rfl, hF3, hb3, hr3, ho3⟩; have hgbB := blk_cell (hF3.blk (g := w.heap.size) (by (with_reducible (repeat (first | apply blk_drew | apply blk_alloc | apply blk_set))); exact HBA.out) HNQ.out) 0; have HBB := AsM (hF3.blk (g := w.heap.size) (by (with_reducible (repeat (first | apply blk_drew | apply blk_alloc | apply blk_set))); exact HBA.out) HNQ.out); have HS4 := AsM (HSA.out.pushed hF3 hb3 hr3); have HO4 := AsM ho3; have HFS := AsM hF3; have hszA := hFAS; clear hF3 hb3 hr3 ho3))
      all_goals (
       go_wp2
       go_roundg (u - (k + 1))
       case measure => have := HMq.out; omega
       case rel =>
        refine ⟨k + 1, v3, by go_num, by omega, ⟨Nat.le_refl _⟩, ⟨?_⟩, ⟨by rw [List.replicate_succ', ← List.append_assoc]; exact HS4.out⟩, ⟨?_⟩, HBB⟩
        ·exact HFA.out.trans (HFS.out) (fun i hi => by
          rcases List.mem_cons.1 hi with h | h
          ·exact .inl (by simp [h])
          ·rcases HVq.out with h1 | ⟨g, h1, h2⟩
           ·rw [h1] at h; exact .inl (List.mem_cons_of_mem _ h)
           ·rw [h1] at h; simp at h; exact .inr (by omega))
        ·rcases HO4.out with h | ⟨g, h, hg⟩
         ·rw [h]; exact HVq.out
         ·exact .inr ⟨g, h, Nat.lt_of_lt_of_le (blk_lt HBA.out) hg⟩)
     ·obtain rfl : k = u := by omega
      have n4 : decide (k < k) = false := by simp
      go_wp2
      go_ret
      have e : applyE wt j op A B day xs (look es) = 0 := by
       unfold applyE
       rw [if_neg HNE.out, HD.out, HW2.out]
       simp only [beq_eq_false_iff_ne, ne_eq] at e3 e7; simp [e3, e7]
      refine ⟨by rw [e]; rfl, HFq.out.mid, fun _ => ⟨vq, es, clk, ?_, fun kk => ?_, ?_⟩⟩
      ·rw [show applyX j k op A xs (look es) = rem ++ List.replicate k (givesB op) by unfold applyX; rw [HK.out]; simp only [beq_eq_false_iff_ne, ne_eq] at e6 e7; simp [e6, e7]]
       exact HSq.out
      ·unfold applyK; simp only [beq_eq_false_iff_ne, ne_eq] at e6; simp [e6]
      ·rcases HVq.out with h | ⟨g, h, hg⟩
       ·exact .inl h
       ·exact .inr ⟨g, h, by omega⟩
end Go.Proofs.YtpoehkacfmljcaaGreatDoor.H
