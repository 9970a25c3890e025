/- meet: what comes by another way, brought into a state. -/
import Derived.Test.YtpoehkacfmljcaaGreatDoorZV
import Derived.Test.YtpoehkacfmljcaaGreatDoorZHQ
import Derived.Outline
import Derived.Test.YtpoehkacfmljcaaGreatDoorZHB
set_option maxHeartbeats 4000000
set_option maxRecDepth 100000
namespace Go.Proofs.YtpoehkacfmljcaaGreatDoor.H
open Go.RowKit Go.Proofs.YtpoehkacfmljcaaGreatDoorW.PrintWords Go.Proofs.YtpoehkacfmljcaaGreatDoorW.PrintLast Go.Proofs.YtpoehkacfmljcaaGreatDoorW.PrintMore
open Go.ChangeMaps (setBlock)
attribute [local go_sem] max2_int min2_int max_two min_two max_three min_three max_four min_four
set_option linter.unusedVariables false
set_option linter.unusedSimpArgs false
theorem fr_at {w w' : World} {L : List Nat} {p : Addr} {v : Value} (h : w.cell? p = some v) (hf : Fr w w' L) (hn : p.block ∉ L) : w'.cell? p = some v := by
  have hlt : p.block < w.heap.size := by
    rcases Nat.lt_or_ge p.block w.heap.size with h1 | h1
    · exact h1
    · have : w.heap[p.block]? = none := Array.getElem?_eq_none h1
      simp [World.cell?, this] at h
  simp only [World.cell?, hf.block p.block hlt hn] at h ⊢
  exact h
def meetK (s t : Int → Option Bool) (k : Int) : Option Bool := if s k = t k then s k else none
theorem exec_delete {o : Oper} {a : Act} {w w' : World} {m k : Operand} {v : Value} (ho : o.op = .call { callee := .builtin .delete, args := #[m, k], argTypes := #[210, 3] }) {u y : Value} (hs : a.eval m = u) (hx : a.eval k = y) (hr : (Builtin.delete_ #[210, 3] o.type #[u, y]).run Tryz.prog w = .ok v w') : (execOp a.eval o).run Tryz.prog w = .ok (.value v) w' := by
  unfold execOp
  simp only [ho, resolve, invoke, builtin, Sem.run_bind, Sem.run_pure, Result.andThen_ok, List.map_toArray, List.map_cons, List.map_nil, hs, hx, hr]
theorem wpl_del {ops : Array Oper} {rest : List Oper} {o : Oper} {a : Act} {Q : Exit → Act → World → Prop} {w : World} {es : Es Bool} {clk r : Nat} {kk : Int} (m k : Operand) (hg : o.guard = none) (ho : o.op = .call { callee := .builtin .delete, args := #[m, k], argTypes := #[210, 3] }) (hm : a.eval m = .map (some r)) (hk : a.eval k = .int .i64 kk) (hb : w.heap[r]? = some (obj encB es clk))
    (h : ∀ W2, Fr w W2 [r] → W2.heap[r]? = some (obj encB (del es kk) clk) → wpList Tryz.prog ops Q rest (a.put o.dst (.tuple #[])) W2) : wpList Tryz.prog ops Q (o :: rest) a w := by
  obtain ⟨W2, hr, h1, h2⟩ := del_run hb kk
  exact wpl_val hg (exec_delete ho hm hk (hr o.type)) (h W2 h1 h2)
section
def cut (es : Es Bool) (t : Int → Option Bool) (seen : Array Nat) : Es Bool := es.filter fun e => !seen.contains e.2.2 || decide (t e.1 = some e.2.1)
theorem cut_nil (es : Es Bool) (t : Int → Option Bool) : cut es t #[] = es := by
  unfold cut
  exact List.filter_eq_self.2 (by simp)
theorem cut_keep {es : Es Bool} {clk : Nat} (g : Good es clk) {t : Int → Option Bool} {seen : Array Nat} {e : Int × Bool × Nat} (he : e ∈ es) (ht : t e.1 = some e.2.1) : cut es t (seen.push e.2.2) = cut es t seen := by
  unfold cut
  apply List.filter_congr
  intro x hx
  rw [contains_push]
  by_cases h : x.2.2 = e.2.2
  · have := nodup_inj g.born hx he h
    subst this
    simp [ht]
  · rw [show (x.2.2 == e.2.2) = false by simpa using h, Bool.or_false]
theorem cut_drop {es : Es Bool} {clk : Nat} (g : Good es clk) {t : Int → Option Bool} {seen : Array Nat} {e : Int × Bool × Nat} (he : e ∈ es) (ht : t e.1 ≠ some e.2.1) : cut es t (seen.push e.2.2) = del (cut es t seen) e.1 := by
  unfold cut
  rw [del_filter (Good.filter g _).keys, List.filter_filter]
  apply List.filter_congr
  intro x hx
  rw [contains_push]
  by_cases h : x.2.2 = e.2.2
  · have := nodup_inj g.born hx he h
    subst this
    simp [ht]
  · have hk : x.1 ≠ e.1 := fun hk => h (congrArg (·.2.2) (nodup_inj g.keys hx he hk))
    rw [show (x.2.2 == e.2.2) = false by simpa using h, Bool.or_false, show decide (x.1 ≠ e.1) = true by simpa using hk, Bool.true_and]
theorem cut_done {es : Es Bool} {clk : Nat} (g : Good es clk) {t : Int → Option Bool} {seen : Array Nat} (h : unseen (cut es t seen) seen = []) (k : Int) : look (cut es t seen) k = meetK (look es) t k := by
  have hall : ∀ e ∈ es, seen.contains e.2.2 = true := by
    intro e he
    by_cases hc : seen.contains e.2.2 = true
    · exact hc
    · exfalso
      have hm : e ∈ unseen (cut es t seen) seen := by
        unfold unseen cut
        simp only [List.mem_filter]
        simp only [Bool.not_eq_true] at hc
        exact ⟨⟨he, by rw [hc]; rfl⟩, by rw [hc]; rfl⟩
      rw [h] at hm
      cases hm
  have hc : cut es t seen = es.filter fun e => decide (t e.1 = some e.2.1) := by
    unfold cut
    apply List.filter_congr
    intro x hx
    rw [hall x hx]; simp
  rw [hc]
  apply Option.ext
  intro v
  rw [look_iff (Good.filter g _).keys]
  unfold meetK
  by_cases hk : look es k = t k
  · rw [if_pos hk, look_iff g.keys]
    constructor
    · rintro ⟨n, hn⟩; exact ⟨n, (List.mem_filter.1 hn).1⟩
    · rintro ⟨n, hn⟩
      exact ⟨n, List.mem_filter.2 ⟨hn, by have := mem_look g.keys hn; simp only at this; simp [← hk, this]⟩⟩
  · rw [if_neg hk]
    constructor
    · rintro ⟨n, hn⟩
      have h1 := List.mem_filter.1 hn
      have h2 := mem_look g.keys h1.1
      have h3 := h1.2
      simp only [decide_eq_true_eq] at h2 h3
      exact absurd (h2.trans h3.symm) hk
    · intro h; cases h
theorem cut_less {es : Es Bool} {t : Int → Option Bool} {seen : Array Nat} {e : Int × Bool × Nat} (he : e ∈ unseen (cut es t seen) seen) : (unseen (cut es t (seen.push e.2.2)) (seen.push e.2.2)).length < (unseen (cut es t seen) seen).length := by
  have e1 : unseen (cut es t (seen.push e.2.2)) (seen.push e.2.2) = (unseen (cut es t seen) seen).filter fun x => !(x.2.2 == e.2.2) := by
    unfold unseen cut
    rw [List.filter_filter, List.filter_filter, List.filter_filter]
    apply List.filter_congr
    intro x _
    rw [contains_push]
    cases seen.contains x.2.2 <;> cases (x.2.2 == e.2.2) <;> simp
  rw [e1]
  exact List.length_filter_lt_length_iff_exists.2 ⟨e, he, by simp⟩
end
def meetE (xs ys : List Bool) : Int := if xs.length ≠ ys.length then 142 else if xs ≠ ys then 143 else 0
theorem meet_calls (p q r r2 clk clk2 : Nat) (v v2 : Value) (xs ys : List Bool) (es fs : Es Bool) (w : World) (hs : St w p v r xs es clk) (ht : St w q v2 r2 ys fs clk2) (hrr : r2 ≠ r) (hm : xs.length ≤ 140737488355328) :
    Calls Tryz.prog 163 #[.pointer (some ⟨p, 0, none⟩), .pointer (some ⟨q, 0, none⟩)] w fun e w' => e = .returned (.int .i64 (meetE xs ys)) ∧ Fr w w' [r] ∧ (meetE xs ys = 0 → ∃ es' clk', St w' p v r xs es' clk' ∧ ∀ k, look es' k = meetK (look es) (look fs) k) := by
  obtain ⟨SA, sc, rfl, hr⟩ := hs.row.slice
  obtain ⟨TA, tc, rfl, htr⟩ := ht.row.slice
  have hlt := blk_lt hs.blk
  have hltq := blk_lt ht.blk
  have c0 := blk_cell hs.blk 0
  have d0 := blk_cell ht.blk 0
  have HS0 := AsM hs
  have HT0 := AsM ht
  have HR := AsM hr
  have HRT := AsM htr
  clear hs ht hr htr
  by_cases hlen : xs.length = ys.length
  case neg =>
    have e : meetE xs ys = 142 := by unfold meetE; rw [if_pos hlen]
    rw [e]
    have n1 : (xs.length != ys.length) = true := by simpa using hlen
    have n2 : (xs.length == ys.length) = false := by simpa using hlen
    clear e hlen
    go_enter Tryz.func163, Tryz.ntmps163
    go_wp2
    go_region_with (first | (go_at_call 134; (refine (height_fr p _ _ _ _ HS0.out.blk (by (with_reducible (repeat (first | refine Fr.drew ?_ | refine Fr.drewN ?_ _ | refine Fr.alloc ?_ _ | refine Fr.setCell ?_ _ _ ?_))); exact Fr.refl _ _)).mono ?_); rintro e w' ⟨rfl, ⟨nd, rfl⟩⟩) | (go_at_call 134; (refine (height_fr q _ _ _ _ HT0.out.blk (by (with_reducible (repeat (first | refine Fr.drew ?_ | refine Fr.drewN ?_ _ | refine Fr.alloc ?_ _ | refine Fr.setCell ?_ _ _ ?_))); exact Fr.refl _ _)).mono ?_); rintro e w' ⟨rfl, ⟨nd2, rfl⟩⟩))
    all_goals (
      go_wp2
      go_ret
      exact ⟨rfl, FQ, fun h => absurd h (by decide)⟩)
  case pos =>
    have n1 : (xs.length != ys.length) = false := by simpa using hlen
    have n2 : (xs.length == ys.length) = true := by simpa using hlen
    go_enter Tryz.func163, Tryz.ntmps163
    go_upto_region 1 with fail
    go_cut [19] (fun b wx => b = .bool false ∧ Aside0 (Fr w wx []))
    case first =>
      go_region_with (first | (go_at_call 134; (refine (height_fr p _ _ _ _ HS0.out.blk (by (with_reducible (repeat (first | refine Fr.drew ?_ | refine Fr.drewN ?_ _ | refine Fr.alloc ?_ _ | refine Fr.setCell ?_ _ _ ?_))); exact Fr.refl _ _)).mono ?_); rintro e w' ⟨rfl, ⟨nd, rfl⟩⟩) | (go_at_call 134; (refine (height_fr q _ _ _ _ HT0.out.blk (by (with_reducible (repeat (first | refine Fr.drew ?_ | refine Fr.drewN ?_ _ | refine Fr.alloc ?_ _ | refine Fr.setCell ?_ _ _ ?_))); exact Fr.refl _ _)).mono ?_); rintro e w' ⟨rfl, ⟨nd2, rfl⟩⟩))
      all_goals (
        go_wp2
        go_meet
        exact ⟨rfl, ⟨FQ⟩⟩)
    case rest =>
    obtain ⟨rfl, HF⟩ := hcut
    clear n1 n2 c0 d0
    have c0 := blk_cell (HF.out.blk HS0.out.blk (by simp)) 0
    have hltc : p < wc.heap.size := Nat.lt_of_lt_of_le hlt HF.out.size
    go_wp2
    go_loopg [26] xs.length (fun kq b wr => ∃ k : Nat, b = .int .i64 k ∧ k ≤ xs.length ∧ Aside0 (xs.length - k ≤ kq) ∧ Aside0 (Fr w wr []) ∧ Aside0 (xs.take k = ys.take k))
    case atStart => exact ⟨0, rfl, Nat.zero_le _, ⟨Nat.le_refl _⟩, HF, ⟨rfl⟩⟩
    case round =>
      obtain ⟨k, rfl, hk, HM, HFr, HTk⟩ := hrel
      clear c0 hltc
      by_cases hkl : k < xs.length
      · have n3 : decide (k < xs.length) = true := by simpa using hkl
        have b0 : (0 : Int) ≤ (k : Int) := by omega
        have b1 : (k : Int) < xs.length := by omega
        have b2 : (k : Int) < ys.length := by omega
        have hky : k < ys.length := by omega
        obtain ⟨x, hx⟩ : ∃ x, xs.getD k false = x := ⟨_, rfl⟩
        obtain ⟨y, hy⟩ : ∃ y, ys.getD k false = y := ⟨_, rfl⟩
        obtain ⟨ad, rfl, hca⟩ := HR.out.2.2 (by omega)
        obtain ⟨bd, rfl, hcb⟩ := HRT.out.2.2 (by omega)
        have ca := fr_at (hca k hkl) HFr.out (by simp)
        have cb := fr_at (hcb k hky) HFr.out (by simp)
        rw [hx] at ca
        rw [hy] at cb
        have HX := AsM hx
        have HY := AsM hy
        have d0 := blk_cell (HFr.out.blk HT0.out.blk (by simp)) 0
        have hltq' : q < wr.heap.size := Nat.lt_of_lt_of_le hltq HFr.out.size
        have HL := AsM hlen
        clear hca hcb hx hy hlen
        go_wp2
        have s1 : (wr.alloc (.cells #[.bool x] 251)).cell? ⟨wr.heap.size, 0, none⟩ = some (.bool x) := blk_cell (blk_newN (w := wr) (o := .cells #[.bool x] 251) rfl) 0
        have s2 : (wr.alloc (.cells #[.bool x] 251)).cell? ⟨q, 0, none⟩ = some (.slice (some bd) ys.length tc) := blk_cell (blk_alloc (HFr.out.blk HT0.out.blk (by simp)) _) 0
        have s3 : (wr.alloc (.cells #[.bool x] 251)).cell? (bd.add k) = some (.bool y) := fr_at cb (Fr.alloc (Fr.refl _ []) _) (by simp)
        by_cases hxy : x = y
        case neg =>
          go_region_held3 (fun w' => w'.cell? ⟨wr.heap.size, 0, none⟩ = some (.bool x) ∧ w'.cell? ⟨q, 0, none⟩ = some (.slice (some bd) ys.length tc) ∧ w'.cell? (bd.add k) = some (.bool y)) (first | exact ⟨s1, s2, s3⟩ | go_keep) (fail)
          go_wp2
          go_ret
          have e : meetE xs ys = 143 := by
            unfold meetE
            rw [if_neg (by have := HL.out; omega), if_pos]
            rintro rfl
            exact hxy (HX.out.symm.trans HY.out)
          exact ⟨by rw [e]; rfl, ((HFr.out.mono (by simp)).alloc _).drew, fun h => absurd (e.symm.trans h) (by decide)⟩
        case pos =>
          subst hxy
          go_region_held3 (fun w' => w'.cell? ⟨wr.heap.size, 0, none⟩ = some (.bool x) ∧ w'.cell? ⟨q, 0, none⟩ = some (.slice (some bd) ys.length tc) ∧ w'.cell? (bd.add k) = some (.bool x)) (first | exact ⟨s1, s2, s3⟩ | go_keep) (fail)
          go_wp2
          go_roundg (xs.length - (k + 1))
          case measure => have := HM.out; omega
          case rel =>
            refine ⟨k + 1, by go_num, by omega, ⟨Nat.le_refl _⟩, ⟨(HFr.out.alloc _).drew⟩, ⟨?_⟩⟩
            have hx := HX.out
            have hy := HY.out
            rw [List.take_add_one, List.take_add_one, HTk.out, List.getElem?_eq_getElem hkl, List.getElem?_eq_getElem hky]
            rw [List.getD_eq_getElem?_getD, List.getElem?_eq_getElem hkl] at hx
            rw [List.getD_eq_getElem?_getD, List.getElem?_eq_getElem hky] at hy
            simp only [Option.getD_some] at hx hy
            rw [hx, hy]
      · obtain rfl : k = xs.length := by omega
        have n3 : decide (xs.length < xs.length) = false := by simp
        have hxy : xs = ys := by
          have := HTk.out
          rw [List.take_length, hlen, List.take_length] at this
          exact this
        subst hxy
        have c1 := blk_cell (HFr.out.blk HS0.out.blk (by simp)) 1
        have hltc : p < wr.heap.size := Nat.lt_of_lt_of_le hlt HFr.out.size
        clear HTk HR HRT
        go_wp2_with (first | (at_range; refine wpl_range (.tmp 45) wr.heap.size rfl rfl rfl Tryz.underlying210 rfl (HFr.out.blk HS0.out.mp (by simp)) ?_))
        go_loopg [] ((unseen (cut es (look fs) #[]) #[]).length) (fun kq w2 => ∃ seen : Array Nat, Aside0 ((unseen (cut es (look fs) seen) seen).length ≤ kq) ∧ Aside0 (Fr w w2 [r]) ∧ Aside0 (w2.heap[wr.heap.size]? = some (.mapIter (some r) clk seen clk)) ∧ Aside0 (w2.heap[r]? = some (obj encB (cut es (look fs) seen) clk)))
        case atStart => exact ⟨#[], ⟨Nat.le_refl _⟩, ⟨(HFr.out.mono (by simp)).alloc _⟩, ⟨blk_newN rfl⟩, ⟨by rw [cut_nil]; exact blk_alloc (HFr.out.blk HS0.out.mp (by simp)) _⟩⟩
        case round =>
          obtain ⟨seen, HM, HFw, HIt, HMp⟩ := hrel
          have hszr := HFr.out.size
          clear c1 hltc
          have hr2 := blk_lt HT0.out.mp
          have hrl := blk_lt HS0.out.mp
          have hq : q ≠ r := fun e => by have h1 := HT0.out.blk; rw [e, HS0.out.mp] at h1; simp [obj] at h1
          go_wp2_with (first | (at_next; refine wpl_nextB (.tmp 46) rfl rfl rfl HIt.out HMp.out (Good.filter HS0.out.good _) (fun hd => ?_) (fun ke be ne he W hFW hitW hen => have HIW := AsM hitW; have HE0 := AsM he; have HFS := AsM (hFW.blk (HFw.out.blk HT0.out.mp (by simpa using hrr)) (by simp; omega)); have HMW := AsM (hFW.blk HMp.out (by simp; omega)); have HQW := AsM (hFW.blk (HFw.out.blk HT0.out.blk (by simpa using hq)) (by simp; omega)); have HPW := AsM (hFW.blk (HFw.out.blk HS0.out.blk (by simpa using HS0.out.ne_pr)) (by simp; omega)); have hq1 := blk_cell HQW.out 1; have hp1 := blk_cell HPW.out 1; have hql := blk_lt HQW.out; have hpl := blk_lt HPW.out; have HFT := AsM (HFw.out.trans hFW (by intro i hi; simp at hi; simp; omega)); have hmem : (ke, be, ne) ∈ es := (List.mem_filter.1 (List.mem_filter.1 he).1).1; have HME := AsM hmem; have hq2 : (W.alloc (.cells #[.bool be] 251)).cell? ⟨q, 1, none⟩ = some (.map (some r2)) := blk_cell (blk_alloc HQW.out _) 1; have hp2 : ∀ c, ((W.alloc (.cells #[.bool be] 251)).alloc c).cell? ⟨p, 1, none⟩ = some (.map (some r)) := fun c => blk_cell (blk_alloc (blk_alloc HPW.out _) c) 1; ?_)) | (at_lookup; refine wpl_look (.tmp 56) (.tmp 57) rfl rfl rfl rfl (by (with_reducible (repeat (first | apply blk_drew | apply blk_alloc | apply blk_set))); exact HFS.out) ?_) | (at_delete; refine wpl_del (.tmp 71) (.tmp 72) rfl rfl rfl rfl (by (with_reducible (repeat (first | apply blk_drew | apply blk_alloc | apply blk_set))); exact HMW.out) ?_; intro W2 hF2 hM2; have HF2 := AsM hF2; have HM2 := AsM hM2; clear hF2 hM2))
          · go_ret
            have e : meetE xs xs = 0 := by unfold meetE; rw [if_neg (by simp), if_neg (by simp)]
            exact ⟨by rw [e]; rfl, HFw.out, fun _ => ⟨cut es (look fs) seen, clk, ⟨HFw.out.blk HS0.out.blk (by simpa using HS0.out.ne_pr), HS0.out.row.fr HFw.out (fun k hk => by simpa using HS0.out.row.neMap HS0.out.mp k hk), HMp.out, Good.filter HS0.out.good _⟩, fun k => cut_done HS0.out.good hd k⟩⟩
          all_goals first
            | (have ht : look fs ke ≠ some be := by (intro h9; simp_all; done)
               have hlc := cut_less HE0.out
               go_roundg ((unseen (cut es (look fs) (seen.push ne)) (seen.push ne)).length)
               case measure => have := HM.out; simp at hlc ⊢; omega
               case rel =>
                 refine ⟨seen.push ne, ⟨Nat.le_refl _⟩, ⟨((HFT.out.alloc _).alloc _).trans HF2.out (by simp)⟩, ⟨HF2.out.blk (blk_alloc (blk_alloc HIW.out _) _) (by simp; omega)⟩, ⟨?_⟩⟩
                 rw [cut_drop HS0.out.good HME.out ht]
                 exact HM2.out)
            | (have ht : look fs ke = some be := by (cases h9 : look fs ke <;> simp_all; done)
               have hlc := cut_less HE0.out
               go_roundg ((unseen (cut es (look fs) (seen.push ne)) (seen.push ne)).length)
               case measure => have := HM.out; simp at hlc ⊢; omega
               case rel =>
                 refine ⟨seen.push ne, ⟨Nat.le_refl _⟩, ⟨(HFT.out.alloc _).alloc _⟩, ⟨blk_alloc (blk_alloc HIW.out _) _⟩, ⟨?_⟩⟩
                 rw [cut_keep HS0.out.good HME.out ht]
                 exact blk_alloc (blk_alloc HMW.out _) _)
            | (exfalso; simp_all; done)
structure FrP (w w' : World) (P : Nat → Prop) : Prop where
 os : w'.os = w.os
 tape : w'.tape = w.tape
 output : w'.output = w.output
 size : w.heap.size ≤ w'.heap.size
 block : ∀ k, k < w.heap.size → ¬ P k → w'.heap[k]? = w.heap[k]?
theorem FrP.refl (w : World) (P : Nat → Prop) : FrP w w P := ⟨rfl, rfl, rfl, Nat.le_refl _, fun _ _ _ => rfl⟩
theorem FrP.then {a b c : World} {P : Nat → Prop} {L : List Nat} (h : FrP a b P) (k : Fr b c L) (hL : ∀ i ∈ L, P i ∨ a.heap.size ≤ i) : FrP a c P :=
 ⟨k.os.trans h.os, k.tape.trans h.tape, k.output.trans h.output, Nat.le_trans h.size k.size, fun i hi hn => (k.block i (Nat.lt_of_lt_of_le hi h.size) (fun hm => (hL i hm).elim hn (by omega))).trans (h.block i hi hn)⟩
theorem FrP.trans {a b c : World} {P Q : Nat → Prop} (h : FrP a b P) (k : FrP b c Q) (hQ : ∀ i, Q i → P i ∨ a.heap.size ≤ i) : FrP a c P :=
 ⟨k.os.trans h.os, k.tape.trans h.tape, k.output.trans h.output, Nat.le_trans h.size k.size, fun i hi hn => (k.block i (Nat.lt_of_lt_of_le hi h.size) (fun hm => (hQ i hm).elim hn (by omega))).trans (h.block i hi hn)⟩
theorem FrP.blk {a b : World} {P : Nat → Prop} (h : FrP a b P) {g : Nat} {o : Obj} (hg : a.heap[g]? = some o) (hn : ¬ P g) : b.heap[g]? = some o := (h.block g (blk_lt hg) hn).trans hg
theorem FrP.fr {a b : World} {P : Nat → Prop} {L : List Nat} (h : FrP a b P) (hP : ∀ i, i < a.heap.size → P i → i ∈ L) : Fr a b L := ⟨h.os, h.tape, h.output, h.size, fun i hi hn => h.block i hi (fun hp => hn (hP i hi hp))⟩
theorem Fr.thenP {a b c : World} {P : Nat → Prop} (h : Fr a b []) (k : FrP b c P) (hP : ∀ i, P i → a.heap.size ≤ i) : Fr a c [] :=
 ⟨k.os.trans h.os, k.tape.trans h.tape, k.output.trans h.output, Nat.le_trans h.size k.size, fun i hi _ => (k.block i (Nat.lt_of_lt_of_le hi h.size) (fun hm => by have := hP i hm; omega)).trans (h.block i hi (by simp))⟩
structure SR where
 p : Nat
 r : Nat
 clk : Nat
 v : Value
 xs : List Bool
 es : Es Bool
abbrev AS : Type := List Bool × (Int → Option Bool)
def SR.abs (s : SR) : AS := (s.xs, look s.es)
def StR (w : World) (s : SR) : Prop := St w s.p s.v s.r s.xs s.es s.clk
def SR.lab (own : Nat → Nat) (s : SR) (j : Nat) : Prop := own s.p = j ∧ own s.r = j ∧ ∀ k, s.v.ownBlock = some k → own k = j
def SR.above (s : SR) (base : Nat) : Prop := base ≤ s.p ∧ base ≤ s.r ∧ ∀ k, s.v.ownBlock = some k → base ≤ k
theorem StR.fr {w w' : World} {s : SR} {L : List Nat} (h : StR w s) (hf : Fr w w' L) (h1 : s.p ∉ L) (h2 : s.r ∉ L) (h3 : ∀ k, s.v.ownBlock = some k → k ∉ L) : StR w' s := St.fr h hf h1 h2 h3
theorem StR.frP {w w' : World} {s : SR} {P : Nat → Prop} (h : StR w s) (hf : FrP w w' P) (h1 : ¬ P s.p) (h2 : ¬ P s.r) (h3 : ∀ k, s.v.ownBlock = some k → ¬ P k) : StR w' s :=
 ⟨hf.blk h.blk h1, h.row.move fun k hk => hf.block k (h.row.lt k hk) (h3 k hk), hf.blk h.mp h2, h.good⟩
theorem StR.lts {w : World} {s : SR} (h : StR w s) : s.p < w.heap.size ∧ s.r < w.heap.size ∧ ∀ k, s.v.ownBlock = some k → k < w.heap.size := ⟨blk_lt h.blk, blk_lt h.mp, h.row.lt⟩
def ptrOf (s : Option SR) : Value := .pointer (s.map fun s => (⟨s.p, 0, none⟩ : Addr))
structure Sts (w : World) (S : Nat) (l : List (Option SR)) (own : Nat → Nat) (base : Nat) : Prop where
 blk : w.heap[S]? = some (.cells (l.map ptrOf).toArray 209 (0, 0))
 st : ∀ (j : Nat) s, l[j]? = some (some s) → StR w s
 lab : ∀ (j : Nat) s, l[j]? = some (some s) → s.lab own j
 abv : ∀ (j : Nat) s, l[j]? = some (some s) → s.above base
 sab : base ≤ S
 len : l.length ≤ 9223372036854775807
theorem StR.neS {w : World} {s : SR} {S : Nat} {cs : Array Value} (h : StR w s) (hS : w.heap[S]? = some (.cells cs 209 (0, 0))) : s.p ≠ S ∧ s.r ≠ S ∧ ∀ k, s.v.ownBlock = some k → k ≠ S := by
 refine ⟨fun e => ?_, fun e => ?_, fun k hk e => ?_⟩
 ·have h1 := h.blk; rw [e, hS] at h1; simp at h1
 ·have h1 := h.mp; rw [e, hS] at h1; simp [obj] at h1
 ·subst e
  exact h.row.ne hS (by decide) hk
def absL (l : List (Option SR)) : List (Option AS) := l.map (·.map SR.abs)
theorem absL_get {l : List (Option SR)} {j : Nat} : (absL l)[j]? = l[j]?.map (·.map SR.abs) := by simp [absL]
theorem absL_set (l : List (Option SR)) (j : Nat) (s : Option SR) : absL (l.set j s) = (absL l).set j (s.map SR.abs) := by simp [absL, List.map_set]
theorem get_set {l : List (Option SR)} {n j : Nat} {x : Option SR} {s : SR} (hn : n < l.length) (h : (l.set n x)[j]? = some (some s)) : (j = n ∧ x = some s) ∨ (j ≠ n ∧ l[j]? = some (some s)) := by
 rw [List.getElem?_set] at h
 by_cases hj : n = j
 ·rw [if_pos hj, if_pos hn] at h
  exact .inl ⟨hj.symm, by simpa using h⟩
 ·rw [if_neg hj] at h
  exact .inr ⟨fun e => hj e.symm, h⟩
theorem ptr_set (l : List (Option SR)) (n : Nat) (x : Option SR) : ((l.set n x).map ptrOf).toArray = (l.map ptrOf).toArray.setIfInBounds n (ptrOf x) := by simp [List.map_set]
theorem Sts.fr {w w' : World} {S base : Nat} {l : List (Option SR)} {own : Nat → Nat} (h : Sts w S l own base) (hf : Fr w w' []) : Sts w' S l own base :=
 ⟨hf.blk h.blk (by simp), fun j s hj => (h.st j s hj).fr hf (by simp) (by simp) (by simp), h.lab, h.abv, h.sab, h.len⟩
theorem Sts.frP {w w' : World} {S base : Nat} {l : List (Option SR)} {own : Nat → Nat} {P : Nat → Prop} (h : Sts w S l own base) (hf : FrP w w' P) (hS : ¬ P S) (hP : ∀ k, P k → l.length ≤ own k) : Sts w' S l own base :=
 ⟨hf.blk h.blk hS, fun j s hj => by
  have hl := h.lab j s hj
  have hjl : j < l.length := (List.getElem?_eq_some_iff.1 hj).1
  exact (h.st j s hj).frP hf (fun hp => by have := hP _ hp; rw [hl.1] at this; omega) (fun hp => by have := hP _ hp; rw [hl.2.1] at this; omega) (fun k hk hp => by have := hP _ hp; rw [hl.2.2 k hk] at this; omega), h.lab, h.abv, h.sab, h.len⟩
theorem Sts.own {w : World} {S base : Nat} {l : List (Option SR)} {own own' : Nat → Nat} (h : Sts w S l own base) (ho : ∀ k, k < w.heap.size → own' k = own k) : Sts w S l own' base :=
 ⟨h.blk, h.st, fun j s hj => by
  have hl := h.lab j s hj
  have hs := (h.st j s hj).lts
  exact ⟨(ho _ hs.1).trans hl.1, (ho _ hs.2.1).trans hl.2.1, fun k hk => (ho _ (hs.2.2 k hk)).trans (hl.2.2 k hk)⟩, h.abv, h.sab, h.len⟩
theorem Sts.put {w w' : World} {S base n : Nat} {l : List (Option SR)} {own : Nat → Nat} (h : Sts w S l own base) (hf : Fr w w' []) (s1 : SR) (hs : StR w' s1) (hab : s1.above w.heap.size) (hn : n < l.length) :
  Sts (w'.setCell ⟨S, n, none⟩ (.pointer (some ⟨s1.p, 0, none⟩))) S (l.set n (some s1)) (fun k => if k < w.heap.size then own k else n) base := by
 have hb := hf.blk h.blk (by simp)
 have hlt := blk_lt h.blk
 have hsab := h.sab
 have hset := Fr.set w' ⟨S, n, none⟩ (.pointer (some ⟨s1.p, 0, none⟩))
 have hstay : ∀ s, StR w' s → StR (w'.setCell ⟨S, n, none⟩ (.pointer (some ⟨s1.p, 0, none⟩))) s := fun s hs => by
  obtain ⟨h1, h2, h3⟩ := hs.neS hb
  exact hs.fr hset (by simpa using h1) (by simpa using h2) (fun k hk => by simpa using h3 k hk)
 refine ⟨by rw [ptr_set]; exact blk_set hb n _, fun j s hj => ?_, fun j s hj => ?_, fun j s hj => ?_, hsab, by rw [List.length_set]; exact h.len⟩
 ·rcases get_set hn hj with ⟨rfl, he⟩ | ⟨_, hj⟩
  ·cases he; exact hstay _ hs
  ·exact hstay _ ((h.st j s hj).fr hf (by simp) (by simp) (by simp))
 ·rcases get_set hn hj with ⟨rfl, he⟩ | ⟨_, hj⟩
  ·cases he
   exact ⟨if_neg (by have := hab.1; omega), if_neg (by have := hab.2.1; omega), fun k hk => if_neg (by have := hab.2.2 k hk; omega)⟩
  ·have hl := h.lab j s hj
   have hs := (h.st j s hj).lts
   exact ⟨(if_pos hs.1).trans hl.1, (if_pos hs.2.1).trans hl.2.1, fun k hk => (if_pos (hs.2.2 k hk)).trans (hl.2.2 k hk)⟩
 ·rcases get_set hn hj with ⟨rfl, he⟩ | ⟨_, hj⟩
  ·cases he
   exact ⟨by have := hab.1; omega, by have := hab.2.1; omega, fun k hk => by have := hab.2.2 k hk; omega⟩
  ·exact h.abv j s hj
theorem Sts.met {w w' : World} {S base n : Nat} {l : List (Option SR)} {own : Nat → Nat} (h : Sts w S l own base) (s0 : SR) (h0 : l[n]? = some (some s0)) (hf : Fr w w' [s0.r]) (es : Es Bool) (clk : Nat) (hs : StR w' { s0 with es := es, clk := clk }) :
  Sts w' S (l.set n (some { s0 with es := es, clk := clk })) own base := by
 have hn : n < l.length := (List.getElem?_eq_some_iff.1 h0).1
 have hS0 := h.st n s0 h0
 have hl0 := h.lab n s0 h0
 have hptr : ((l.set n (some { s0 with es := es, clk := clk })).map ptrOf) = l.map ptrOf := by
  apply List.ext_getElem?
  intro j
  rw [List.getElem?_map, List.getElem?_map, List.getElem?_set]
  by_cases hj : n = j
  ·subst hj; rw [if_pos rfl, if_pos hn, h0]; rfl
  ·rw [if_neg hj]
 refine ⟨by rw [hptr]; exact hf.blk h.blk (by simpa using Ne.symm (hS0.neS h.blk).2.1), fun j s hj => ?_, fun j s hj => ?_, fun j s hj => ?_, h.sab, by rw [List.length_set]; exact h.len⟩
 ·rcases get_set hn hj with ⟨rfl, he⟩ | ⟨hne, hj⟩
  ·cases he; exact hs
  ·have hl := h.lab j s hj
   exact (h.st j s hj).fr hf (by simp; intro e; exact hne (by rw [← hl.1, ← hl0.2.1, e])) (by simp; intro e; exact hne (by rw [← hl.2.1, ← hl0.2.1, e])) (fun k hk => by simp; intro e; exact hne (by rw [← hl.2.2 k hk, ← hl0.2.1, e]))
 ·rcases get_set hn hj with ⟨rfl, he⟩ | ⟨_, hj⟩
  ·cases he; exact hl0
  ·exact h.lab j s hj
 ·rcases get_set hn hj with ⟨rfl, he⟩ | ⟨_, hj⟩
  ·cases he; exact h.abv _ s0 h0
  ·exact h.abv j s hj
theorem Sts.drop {w : World} {S base n : Nat} {l : List (Option SR)} {own : Nat → Nat} (h : Sts w S l own base) (hn : n < l.length) :
  Sts (w.setCell ⟨S, n, none⟩ (.pointer none)) S (l.set n none) own base := by
 have hstay : ∀ s, StR w s → StR (w.setCell ⟨S, n, none⟩ (.pointer none)) s := fun s hs => by
  obtain ⟨h1, h2, h3⟩ := hs.neS h.blk
  exact hs.fr (Fr.set w _ _) (by simpa using h1) (by simpa using h2) (fun k hk => by simpa using h3 k hk)
 refine ⟨by rw [ptr_set]; exact blk_set h.blk n _, fun j s hj => ?_, fun j s hj => ?_, fun j s hj => ?_, h.sab, by rw [List.length_set]; exact h.len⟩
 all_goals rcases get_set hn hj with ⟨rfl, he⟩ | ⟨_, hj⟩
 ·cases he
 ·exact hstay _ (h.st j s hj)
 ·cases he
 ·exact h.lab j s hj
 ·cases he
 ·exact h.abv j s hj
def handStep (b : AS) (l : List (Option AS)) (t : Int) : Int × List (Option AS) :=
 match l[t.toNat]? with
 | some (some a) => if meetE a.1 b.1 = 0 then (0, l.set t.toNat (some (a.1, meetK a.2 b.2))) else (meetE a.1 b.1, l)
 | _ => (0, l.set t.toNat (some b))
def handAll (b : AS) (l : List (Option AS)) : List Int → Int × List (Option AS)
 | [] => (0, l)
 | t :: ts => if (handStep b l t).1 = 0 then handAll b (handStep b l t).2 ts else handStep b l t
theorem handAll_snoc (b : AS) (l : List (Option AS)) (ts : List Int) (t : Int) (m : List (Option AS)) (h : handAll b l ts = (0, m)) : handAll b l (ts ++ [t]) = if (handStep b m t).1 = 0 then (0, (handStep b m t).2) else handStep b m t := by
 induction ts generalizing l with
 | nil => simp only [handAll, Prod.mk.injEq] at h; obtain ⟨_, rfl⟩ := h; simp [handAll]
 | cons x xs ih =>
  simp only [handAll, List.cons_append] at h ⊢
  by_cases hx : (handStep b l x).1 = 0
  ·rw [if_pos hx] at h ⊢; exact ih _ h
  ·rw [if_neg hx] at h; exact absurd (by rw [h]) hx
theorem handAll_stop (b : AS) (l : List (Option AS)) (ts us : List Int) (h : (handAll b l ts).1 ≠ 0) : handAll b l (ts ++ us) = handAll b l ts := by
 induction ts generalizing l with
 | nil => simp [handAll] at h
 | cons x xs ih =>
  simp only [handAll, List.cons_append] at h ⊢
  by_cases hx : (handStep b l x).1 = 0
  ·rw [if_pos hx] at h; rw [if_pos hx, if_pos hx]; exact ih _ h
  ·rw [if_neg hx, if_neg hx]
theorem handStep_len {M : Nat} {b : AS} {l : List (Option AS)} {t : Int} (hl : ∀ a, some a ∈ l → a.1.length ≤ M) (hb : b.1.length ≤ M) : ∀ a, some a ∈ (handStep b l t).2 → a.1.length ≤ M := by
 intro a ha
 unfold handStep at ha
 split at ha
 ·rename_i x hx
  have hxm : some x ∈ l := List.mem_of_getElem? hx
  split at ha
  ·rcases List.mem_or_eq_of_mem_set ha with h | h
   ·exact hl a h
   ·cases h; exact hl x hxm
  ·exact hl a ha
 ·rcases List.mem_or_eq_of_mem_set ha with h | h
  ·exact hl a h
  ·cases h; exact hb
theorem handAll_len {M : Nat} {b : AS} (hb : b.1.length ≤ M) : ∀ (ts : List Int) {l : List (Option AS)}, (∀ a, some a ∈ l → a.1.length ≤ M) → ∀ a, some a ∈ (handAll b l ts).2 → a.1.length ≤ M
 | [], _, hl => hl
 | t :: ts, l, hl => by
  unfold handAll
  split
  ·exact handAll_len hb ts (handStep_len hl hb)
  ·exact handStep_len hl hb
theorem handAll_size {b : AS} : ∀ (ts : List Int) {l : List (Option AS)}, (handAll b l ts).2.length = l.length
 | [], _ => rfl
 | t :: ts, l => by
  have h1 : (handStep b l t).2.length = l.length := by
   unfold handStep
   split
   ·split <;> simp
   ·simp
  unfold handAll
  split
  ·rw [handAll_size ts, h1]
  ·exact h1
def IntsV (w : World) (v : Value) (tos : List Int) : Prop := (v = .slice none 0 0 ∧ tos = []) ∨ ∃ g, v = .slice (some ⟨g, 0, none⟩) tos.length tos.length ∧ w.heap[g]? = some (.cells (tos.map (Value.int .i64)).toArray 3 (0, 0))
theorem IntsV.slice {w : World} {v : Value} {tos : List Int} (h : IntsV w v tos) : ∃ A, v = .slice A tos.length tos.length ∧ ∀ k, k < tos.length → ∃ g, A = some ⟨g, 0, none⟩ ∧ w.cell? ⟨g, k, none⟩ = some (.int .i64 (tos.getD k 0)) := by
 rcases h with ⟨rfl, rfl⟩ | ⟨g, rfl, hg⟩
 ·exact ⟨none, rfl, fun k hk => by simp at hk⟩
 ·exact ⟨_, rfl, fun k hk => ⟨g, rfl, by rw [blk_cell hg]; simp [List.getD_eq_getElem?_getD, List.getElem?_eq_getElem hk]⟩⟩
theorem hand_calls (S cS : Nat) (l : List (Option SR)) (own : Nat → Nat) (base : Nat) (b : SR) (A : Option Addr) (tos : List Int) (w : World) (hS : Sts w S l own base) (hb : StR w b) (hlab : b.lab own l.length) (htv : IntsV w (.slice A tos.length tos.length) tos) (hto : ∀ t ∈ tos, 0 ≤ t) (htl : tos.length ≤ 3) (hlen : ∀ a, some a ∈ absL l → a.1.length ≤ 140737488355328) (hbl : b.abs.1.length ≤ 140737488355328) (hcS : l.length ≤ cS) (hA : ∀ g, A = some ⟨g, 0, none⟩ → l.length ≤ own g ∧ g ≠ S) :
  Calls Tryz.prog 138 #[.slice (some ⟨S, 0, none⟩) l.length cS, .pointer (some ⟨b.p, 0, none⟩), .slice A tos.length tos.length] w fun e w' =>
   ((∃ t ∈ tos, (l.length : Int) ≤ t) ∧ e = .returned (.int .i64 141) ∧ w' = w) ∨
   ((∀ t ∈ tos, t < (l.length : Int)) ∧ e = .returned (.int .i64 (handAll b.abs (absL l) tos).1) ∧ FrP w w' (fun k => k = S ∨ own k < l.length) ∧
    ((handAll b.abs (absL l) tos).1 = 0 → ∃ l' own', Sts w' S l' own' base ∧ l'.length = l.length ∧ absL l' = (handAll b.abs (absL l) tos).2 ∧ ∀ k, k < w.heap.size → own' k = own k)) := by
 obtain ⟨A', hA', hcells⟩ := htv.slice
 cases hA'
 have hlt := blk_lt hS.blk
 have HS0 := AsM hS
 have HB0 := AsM hb
 have HLAB := AsM hlab
 have HC := AsM hcells
 have HTO := AsM hto
 have hl63 := hS.len
 have HLEN := AsM hlen
 have hbl' : b.xs.length ≤ 140737488355328 := hbl
 have HAG := AsM hA
 clear hA
 clear hS hb htv hcells hlab hto hlen
 go_enter Tryz.func138, Tryz.ntmps138
 go_wp2
 go_loopg [14] tos.length (fun kq x wr => ∃ k : Nat, x = .int .i64 k ∧ k ≤ tos.length ∧ Aside0 (tos.length - k ≤ kq) ∧ w = wr ∧ Aside0 (∀ t ∈ tos.take k, t < (l.length : Int)))
 case atStart => exact ⟨0, rfl, Nat.zero_le _, ⟨Nat.le_refl _⟩, rfl, ⟨by simp⟩⟩
 case round =>
  obtain ⟨k, rfl, hk, HM, rfl, HTk⟩ := hrel
  by_cases hkl : k < tos.length
  ·have n3 : decide (k < tos.length) = true := by simpa using hkl
   have b0 : (0 : Int) ≤ (k : Int) := by omega
   have b1 : (k : Int) < tos.length := by omega
   obtain ⟨g, rfl, hcg⟩ := HC.out k hkl
   obtain ⟨t, ht⟩ : ∃ t, tos.getD k 0 = t := ⟨_, rfl⟩
   rw [ht] at hcg
   have HT := AsM ht
   clear ht
   by_cases htl : (l.length : Int) ≤ t
   ·have n4 : decide ((l.length : Int) ≤ t) = true := by simpa using htl
    go_wp2
    go_ret
    exact .inl ⟨⟨t, by have := HT.out; rw [← this, List.getD_eq_getElem?_getD, List.getElem?_eq_getElem hkl]; exact List.getElem_mem _, htl⟩, rfl, rfl⟩
   ·have n4 : decide ((l.length : Int) ≤ t) = false := by simpa using htl
    go_wp2
    go_roundg (tos.length - (k + 1))
    case measure => have := HM.out; omega
    case rel =>
     refine ⟨k + 1, by go_num, by omega, ⟨Nat.le_refl _⟩, rfl, ⟨?_⟩⟩
     intro x hx
     rw [List.take_add_one, List.getElem?_eq_getElem hkl] at hx
     rcases List.mem_append.1 hx with h | h
     ·exact HTk.out x h
     ·have := HT.out
      rw [List.getD_eq_getElem?_getD, List.getElem?_eq_getElem hkl] at this
      simp at h this
      omega
  ·obtain rfl : k = tos.length := by omega
   have n3 : decide (tos.length < tos.length) = false := by simp
   have HAL : Aside0 (∀ t ∈ tos, t < (l.length : Int)) := ⟨by have := HTk.out; rw [List.take_length] at this; exact this⟩
   clear HTk
   go_wp2
   go_loopg [25] tos.length (fun kq x wq => ∃ (k : Nat) (l' : List (Option SR)) (own' : Nat → Nat), x = .int .i64 k ∧ k ≤ tos.length ∧ Aside0 (tos.length - k ≤ kq) ∧ Aside0 (FrP w wq (fun k => k = S ∨ own k < l.length)) ∧ Aside0 (Sts wq S l' own' base) ∧ Aside0 (l'.length = l.length) ∧ Aside0 (handAll b.abs (absL l) (tos.take k) = (0, absL l')) ∧ Aside0 (∀ k, k < w.heap.size → own' k = own k))
   case atStart => exact ⟨0, l, own, rfl, Nat.zero_le _, ⟨Nat.le_refl _⟩, ⟨FrP.refl _ _⟩, HS0, ⟨rfl⟩, ⟨by simp [handAll]⟩, ⟨fun _ _ => rfl⟩⟩
   case round =>
    obtain ⟨k, l', own', rfl, hk2, HM2, HF, HSQ, HLL, HH, HOW⟩ := hrel
    by_cases hkl2 : k < tos.length
    ·have n5 : decide (k < tos.length) = true := by simpa using hkl2
     have b0 : (0 : Int) ≤ (k : Int) := by omega
     have b1 : (k : Int) < tos.length := by omega
     obtain ⟨g, rfl, hcg⟩ := HC.out k hkl2
     have hmt : tos.getD k 0 ∈ tos := by rw [List.getD_eq_getElem?_getD, List.getElem?_eq_getElem hkl2]; exact List.getElem_mem _
     have htk : tos.take (k + 1) = tos.take k ++ [tos.getD k 0] := by rw [List.take_add_one, List.getD_eq_getElem?_getD, List.getElem?_eq_getElem hkl2]; rfl
     have ht0 := HTO.out _ hmt
     have ht1 := HAL.out _ hmt
     obtain ⟨n, hn⟩ : ∃ n : Nat, tos.getD k 0 = (n : Int) := ⟨(tos.getD k 0).toNat, by omega⟩
     rw [hn] at hcg htk ht0 ht1
     have hn1 : n < l.length := by omega
     have HTK := AsM htk
     clear hn htk hmt
     have hS1 := HSQ.out.blk
     have hagS := (HAG.out g rfl)
     have hBq : StR wr b := HB0.out.frP HF.out (by have := (HB0.out.neS HS0.out.blk).1; have := HLAB.out.1; omega) (by have := (HB0.out.neS HS0.out.blk).2.1; have := HLAB.out.2.1; omega) (fun k hk => by have := (HB0.out.neS HS0.out.blk).2.2 k hk; have := HLAB.out.2.2 k hk; omega)
     have hcg2 : wr.cell? ⟨g, k, none⟩ = some (.int .i64 n) := by
      have hgl : g < w.heap.size := by
       rcases Nat.lt_or_ge g w.heap.size with h1 | h1
       ·exact h1
       ·have : w.heap[g]? = none := Array.getElem?_eq_none h1
        simp [World.cell?, this] at hcg
      have hb := HF.out.block g hgl (by omega)
      simp only [World.cell?, hb] at hcg ⊢
      exact hcg
     have hSc := blk_cell hS1 n
     have hSz := blk_frozen hS1 n
     have hSl := blk_lt hS1
     have HS1 := AsM hS1
     have HBQ := AsM hBq
     have p0 : (0 : Int) ≤ (n : Int) := by omega
     have p1 : (n : Int) < l.length := by omega
     clear hcg hBq hS1 hagS
     have hlg : n < l'.length := by have := HLL.out; omega
     obtain ⟨so, hso⟩ : ∃ so, l'[n]? = some so := ⟨_, List.getElem?_eq_getElem hlg⟩
     have HSO := AsM hso
     cases so with
     | none =>
      have hc1 : wr.cell? ⟨S, n, none⟩ = some (.pointer none) := by rw [hSc]; simp [hso, ptrOf]
      clear hSc hso
      go_wp2_with (first | (go_at_call 136; (refine (twin_calls b.p b.r b.clk b.v b.xs b.es _ HBQ.out hbl').mono ?_); rintro e w' ⟨q, v', r', es', clk', rfl, hF1, hS2, hlk, hq1, hr1, hv1⟩; have hcS1 := fr_cell (o := n) hF1 hSl (by simp); rw [hc1] at hcS1; have hzS1 := blk_frozen (hF1.blk HS1.out (by simp)) n; have HF1 := AsM hF1; have HS2 := AsM hS2; have HLK := AsM hlk; have HV1 := AsM hv1; clear hF1 hS2 hlk hv1))
      go_roundg (tos.length - (k + 1))
      case measure => have := HM2.out; omega
      case rel =>
       have hput := HSQ.out.put HF1.out ⟨q, r', clk', v', b.xs, es'⟩ HS2.out ⟨hq1, hr1, fun k hk => HV1.out k hk⟩ hlg
       have habs : (SR.mk q r' clk' v' b.xs es').abs = b.abs := by simp only [SR.abs, Prod.mk.injEq, true_and]; funext k; exact HLK.out k
       have hszw := HF.out.size
       refine ⟨k + 1, _, _, by go_num, by omega, ⟨Nat.le_refl _⟩, ⟨?_⟩, ⟨hput⟩, ⟨by rw [List.length_set]; exact HLL.out⟩, ⟨?_⟩, ⟨fun k hk => by rw [if_pos (by omega)]; exact HOW.out k hk⟩⟩
       ·exact (HF.out.then HF1.out (by simp)).then (Fr.set _ _ _) (by simp)
       ·rw [HTK.out, handAll_snoc _ _ _ _ _ HH.out]
        have hst : handStep b.abs (absL l') (n : Int) = (0, (absL l').set n (some b.abs)) := by
         unfold handStep
         rw [show ((n : Int)).toNat = n by simp, absL_get, HSO.out]
         rfl
        rw [hst, absL_set, Option.map_some, habs]; rfl
     | some s0 =>
      have hc1 : wr.cell? ⟨S, n, none⟩ = some (.pointer (some ⟨s0.p, 0, none⟩)) := by rw [hSc]; simp [hso, ptrOf]
      have hne : b.r ≠ s0.r := fun e => by
       have h1 := (HSQ.out.lab n s0 hso).2.1
       have h2 := HLAB.out.2.1
       have h3 := HOW.out b.r (HB0.out.lts).2.1
       rw [e] at h3 h2
       omega
      have HS0' := AsM (HSQ.out.st n s0 hso)
      have HXL : Aside0 (s0.xs.length ≤ 140737488355328) := ⟨by
       have h1 := handAll_len (M := 140737488355328) hbl (tos.take k) HLEN.out
       rw [HH.out] at h1
       refine h1 s0.abs ?_
       unfold absL
       exact List.mem_map.2 ⟨some s0, List.mem_of_getElem? hso, rfl⟩⟩
      have HST : Aside0 (handStep b.abs (absL l') (n : Int) = if meetE s0.xs b.xs = 0 then (0, (absL l').set n (some (s0.xs, meetK (look s0.es) (look b.es)))) else (meetE s0.xs b.xs, absL l')) := ⟨by
       unfold handStep
       rw [show ((n : Int)).toNat = n by simp, absL_get, HSO.out]
       rfl⟩
      clear hSc hso
      go_wp2_with (first | (go_at_call 163; (refine (meet_calls s0.p b.p s0.r b.r s0.clk b.clk s0.v b.v s0.xs b.xs s0.es b.es _ HS0'.out HBQ.out hne HXL.out).mono ?_); rintro e w' ⟨rfl, hF1, hS2⟩; have HF1 := AsM hF1; have HS2 := AsM hS2; clear hF1 hS2))
      ·rename_i hm
       have hst := HST.out
       have hm : meetE s0.xs b.xs ≠ 0 := by simpa using hm
       rw [if_neg hm] at hst
       have hal : handAll b.abs (absL l) tos = (meetE s0.xs b.xs, absL l') := by
        have h1 := handAll_snoc b.abs (absL l) (tos.take k) (n : Int) (absL l') HH.out
        rw [hst, if_neg hm, ← HTK.out] at h1
        have h2 := handAll_stop b.abs (absL l) (tos.take (k + 1)) (tos.drop (k + 1)) (by rw [h1]; exact hm)
        rw [List.take_append_drop, h1] at h2
        exact h2
       go_ret
       exact .inr ⟨HAL.out, by rw [hal]; rfl, HF.out.then HF1.out (fun i hi => by
        simp at hi
        subst hi
        by_cases hl9 : s0.r < w.heap.size
        ·exact .inl (.inr (by have h1 := HOW.out _ hl9; have h2 := (HSQ.out.lab n s0 HSO.out).2.1; omega))
        ·exact .inr (by omega)), fun h => absurd (by rw [hal] at h; exact h) hm⟩
      ·rename_i hm
       have hst := HST.out
       have hm : meetE s0.xs b.xs = 0 := by simpa using hm
       rw [if_pos hm] at hst
       obtain ⟨es', clk', hS3, hK3⟩ := HS2.out hm
       have hmet := HSQ.out.met s0 HSO.out HF1.out es' clk' hS3
       have habs : (SR.mk s0.p s0.r clk' s0.v s0.xs es').abs = (s0.xs, meetK (look s0.es) (look b.es)) := by simp only [SR.abs, Prod.mk.injEq, true_and]; funext k; exact hK3 k
       go_roundg (tos.length - (k + 1))
       case measure => have := HM2.out; omega
       case rel =>
        refine ⟨k + 1, _, own', by go_num, by omega, ⟨Nat.le_refl _⟩, ⟨HF.out.then HF1.out (fun i hi => by
        simp at hi
        subst hi
        by_cases hl9 : s0.r < w.heap.size
        ·exact .inl (.inr (by have h1 := HOW.out _ hl9; have h2 := (HSQ.out.lab n s0 HSO.out).2.1; omega))
        ·exact .inr (by omega))⟩, ⟨hmet⟩, ⟨by rw [List.length_set]; exact HLL.out⟩, ⟨?_⟩, HOW⟩
        rw [HTK.out, handAll_snoc b.abs (absL l) (tos.take k) (n : Int) (absL l') HH.out, hst, absL_set, Option.map_some, habs]; rfl
    ·obtain rfl : k = tos.length := by omega
     have n5 : decide (tos.length < tos.length) = false := by simp
     have hh := HH.out
     rw [List.take_length] at hh
     have HH2 := AsM hh
     clear HH hh
     go_wp2
     go_ret
     exact .inr ⟨HAL.out, by rw [HH2.out]; rfl, HF.out, fun _ => ⟨l', own', HSQ.out, HLL.out, by rw [HH2.out], HOW.out⟩⟩
open Go.Proofs.YtpoehkacfmljcaaGreatDoor.M
def placesL (x : S113) (k : Nat) : List Int := if x.f0 = 0 then [] else if x.f0 = 26 then [(k : Int) + 1 + x.f1] else if x.f0 = 27 then [(k : Int) + 1, (k : Int) + 1 + x.f1] else [(k : Int) + 1]
theorem instr_at {w : World} {A : Option Addr} {n : Nat} {xs : List S113} (h : Kd.C k113 w A n xs) (k : Nat) (hk : k < n) : ∃ ad, A = some ad ∧ w.cell? (ad.add (k * 3)) = some (.int .i64 (xs.getD k z113).f0) ∧ w.cell? ⟨(ad.add (k * 3)).block, (ad.add (k * 3)).off + 1, none⟩ = some (.int .i64 (xs.getD k z113).f1) ∧ w.cell? ⟨(ad.add (k * 3)).block, (ad.add (k * 3)).off + 2, none⟩ = some (.int .i64 (xs.getD k z113).f2) := by
 obtain ⟨ad, e, h0, h1, h2⟩ := at_T113 h (k : Int) (by omega) (by omega)
 simp only [rd_T113, Int.toNat_natCast] at h0 h1 h2
 exact ⟨ad, e, h0, h1, h2⟩
theorem places_calls (A : Option Addr) (c : Nat) (l : List S113) (k : Nat) (hk : k < l.length) (w : World) (hC : Kd.C k113 w A l.length l) (hc : l.length ≤ c) (hl : l.length ≤ 1000000) (x : S113) (hx : l.getD k z113 = x) (hx0 : 0 ≤ x.f1) (hx1 : x.f1 ≤ 1000000) :
  Calls Tryz.prog 139 #[.slice A l.length c, .int .i64 k] w fun e w' => ∃ v, e = .returned v ∧ Fr w w' [] ∧ IntsV w' v (placesL x k) ∧ ∀ g, v.ownBlock = some g → w.heap.size ≤ g := by
 obtain ⟨ad, rfl, h0, h1, h2⟩ := instr_at hC k hk
 rw [hx] at h0 h1 h2
 clear hx hC
 obtain ⟨op, a, b⟩ := x
 simp only at h0 h1 h2 hx0 hx1
 have hu := Tryz.underlying113
 have b0 : (0 : Int) ≤ (k : Int) := by omega
 have b1 : (k : Int) < l.length := by omega
 have hcs : op = 0 ∨ op = 26 ∨ op = 27 ∨ ((op == 0) = false ∧ (op == 26) = false ∧ (op == 27) = false) := by simp only [beq_eq_false_iff_ne, ne_eq]; omega
 rcases hcs with rfl | rfl | rfl | ⟨e0, e1, e2⟩
 ·rw [show placesL ⟨0, a, b⟩ k = [] by simp [placesL]]
  go_enter Tryz.func139, Tryz.ntmps139
  go_wp2
  go_ret
  exact ⟨_, rfl, FQ, .inl ⟨rfl, rfl⟩, fun g hg => by cases hg⟩
 ·rw [show placesL ⟨26, a, b⟩ k = [(k : Int) + 1 + a] by simp [placesL]]
  go_enter Tryz.func139, Tryz.ntmps139
  go_wp2
  go_ret
  exact ⟨_, rfl, FQ, .inr ⟨_, rfl, blk_newN (by simp)⟩, fun g hg => by cases hg; simp⟩
 ·rw [show placesL ⟨27, a, b⟩ k = [(k : Int) + 1, (k : Int) + 1 + a] by simp [placesL]]
  go_enter Tryz.func139, Tryz.ntmps139
  go_wp2
  go_ret
  exact ⟨_, rfl, FQ, .inr ⟨_, rfl, blk_newN (by simp)⟩, fun g hg => by cases hg; simp⟩
 ·rw [show placesL ⟨op, a, b⟩ k = [(k : Int) + 1] by simp only [beq_eq_false_iff_ne, ne_eq] at e0 e1 e2; simp [placesL, e0, e1, e2]]
  go_enter Tryz.func139, Tryz.ntmps139
  go_wp2
  go_ret
  exact ⟨_, rfl, FQ, .inr ⟨_, rfl, blk_newN (by simp)⟩, fun g hg => by cases hg; simp⟩
end Go.Proofs.YtpoehkacfmljcaaGreatDoor.H
