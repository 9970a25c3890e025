/- meet: what comes by another way, brought into a state. -/
import Derived.Test.YtmfbdmjgkcijcaaDoorZV
import Derived.Test.YtmfbdmjgkcijcaaDoorZHQ
import Derived.Outline
namespace Go.Proofs.YtmfbdmjgkcijcaaDoor.H
open Go.RowKit Go.Proofs.YtmfbdmjgkcijcaaDoorW.PrintWords Go.Proofs.YtmfbdmjgkcijcaaDoorW.PrintLast Go.Proofs.YtmfbdmjgkcijcaaDoorW.PrintMore
open Go.ChangeMaps (setBlock)
attribute [local go_sem] max2_int min2_int max_two min_two max_three min_three max_four min_four
set_option linter.unusedVariables false
set_option linter.unusedSimpArgs false
theorem fr_at {w w' : World} {L : List Nat} {p : Addr} {v : Value} (h : w.cell? p = some v) (hf : Fr w w' L) (hn : p.block ∉ L) : w'.cell? p = some v := by
  have hlt : p.block < w.heap.size := by
    rcases Nat.lt_or_ge p.block w.heap.size with h1 | h1
    · exact h1
    · have : w.heap[p.block]? = none := Array.getElem?_eq_none h1
      simp [World.cell?, this] at h
  simp only [World.cell?, hf.block p.block hlt hn] at h ⊢
  exact h
def meetK (s t : Int → Option Bool) (k : Int) : Option Bool := if s k = t k then s k else none
theorem exec_delete {o : Oper} {a : Act} {w w' : World} {m k : Operand} {v : Value} (ho : o.op = .call { callee := .builtin .delete, args := #[m, k], argTypes := #[110, 3] }) {u y : Value} (hs : a.eval m = u) (hx : a.eval k = y) (hr : (Builtin.delete_ #[110, 3] o.type #[u, y]).run Tryd.prog w = .ok v w') : (execOp a.eval o).run Tryd.prog w = .ok (.value v) w' := by
  unfold execOp
  simp only [ho, resolve, invoke, builtin, Sem.run_bind, Sem.run_pure, Result.andThen_ok, List.map_toArray, List.map_cons, List.map_nil, hs, hx, hr]
theorem wpl_del {ops : Array Oper} {rest : List Oper} {o : Oper} {a : Act} {Q : Exit → Act → World → Prop} {w : World} {es : Es Bool} {clk r : Nat} {kk : Int} (m k : Operand) (hg : o.guard = none) (ho : o.op = .call { callee := .builtin .delete, args := #[m, k], argTypes := #[110, 3] }) (hm : a.eval m = .map (some r)) (hk : a.eval k = .int .i64 kk) (hb : w.heap[r]? = some (obj encB es clk))
    (h : ∀ W2, Fr w W2 [r] → W2.heap[r]? = some (obj encB (del es kk) clk) → wpList Tryd.prog ops Q rest (a.put o.dst (.tuple #[])) W2) : wpList Tryd.prog ops Q (o :: rest) a w := by
  obtain ⟨W2, hr, h1, h2⟩ := del_run hb kk
  exact wpl_val hg (exec_delete ho hm hk (hr o.type)) (h W2 h1 h2)
section
/-- What is left of a map when those that were seen and differ are struck out. -/
def cut (es : Es Bool) (t : Int → Option Bool) (seen : Array Nat) : Es Bool := es.filter fun e => !seen.contains e.2.2 || decide (t e.1 = some e.2.1)
theorem cut_nil (es : Es Bool) (t : Int → Option Bool) : cut es t #[] = es := by
  unfold cut
  exact List.filter_eq_self.2 (by simp)
theorem cut_keep {es : Es Bool} {clk : Nat} (g : Good es clk) {t : Int → Option Bool} {seen : Array Nat} {e : Int × Bool × Nat} (he : e ∈ es) (ht : t e.1 = some e.2.1) : cut es t (seen.push e.2.2) = cut es t seen := by
  unfold cut
  apply List.filter_congr
  intro x hx
  rw [contains_push]
  by_cases h : x.2.2 = e.2.2
  · have := nodup_inj g.born hx he h
    subst this
    simp [ht]
  · rw [show (x.2.2 == e.2.2) = false by simpa using h, Bool.or_false]
theorem cut_drop {es : Es Bool} {clk : Nat} (g : Good es clk) {t : Int → Option Bool} {seen : Array Nat} {e : Int × Bool × Nat} (he : e ∈ es) (ht : t e.1 ≠ some e.2.1) : cut es t (seen.push e.2.2) = del (cut es t seen) e.1 := by
  unfold cut
  rw [del_filter (Good.filter g _).keys, List.filter_filter]
  apply List.filter_congr
  intro x hx
  rw [contains_push]
  by_cases h : x.2.2 = e.2.2
  · have := nodup_inj g.born hx he h
    subst this
    simp [ht]
  · have hk : x.1 ≠ e.1 := fun hk => h (congrArg (·.2.2) (nodup_inj g.keys hx he hk))
    rw [show (x.2.2 == e.2.2) = false by simpa using h, Bool.or_false, show decide (x.1 ≠ e.1) = true by simpa using hk, Bool.true_and]
theorem cut_done {es : Es Bool} {clk : Nat} (g : Good es clk) {t : Int → Option Bool} {seen : Array Nat} (h : unseen (cut es t seen) seen = []) (k : Int) : look (cut es t seen) k = meetK (look es) t k := by
  have hall : ∀ e ∈ es, seen.contains e.2.2 = true := by
    intro e he
    by_cases hc : seen.contains e.2.2 = true
    · exact hc
    · exfalso
      have hm : e ∈ unseen (cut es t seen) seen := by
        unfold unseen cut
        simp only [List.mem_filter]
        simp only [Bool.not_eq_true] at hc
        exact ⟨⟨he, by rw [hc]; rfl⟩, by rw [hc]; rfl⟩
      rw [h] at hm
      cases hm
  have hc : cut es t seen = es.filter fun e => decide (t e.1 = some e.2.1) := by
    unfold cut
    apply List.filter_congr
    intro x hx
    rw [hall x hx]; simp
  rw [hc]
  apply Option.ext
  intro v
  rw [look_iff (Good.filter g _).keys]
  unfold meetK
  by_cases hk : look es k = t k
  · rw [if_pos hk, look_iff g.keys]
    constructor
    · rintro ⟨n, hn⟩; exact ⟨n, (List.mem_filter.1 hn).1⟩
    · rintro ⟨n, hn⟩
      exact ⟨n, List.mem_filter.2 ⟨hn, by have := mem_look g.keys hn; simp only at this; simp [← hk, this]⟩⟩
  · rw [if_neg hk]
    constructor
    · rintro ⟨n, hn⟩
      have h1 := List.mem_filter.1 hn
      have h2 := mem_look g.keys h1.1
      have h3 := h1.2
      simp only [decide_eq_true_eq] at h2 h3
      exact absurd (h2.trans h3.symm) hk
    · intro h; cases h
theorem cut_less {es : Es Bool} {t : Int → Option Bool} {seen : Array Nat} {e : Int × Bool × Nat} (he : e ∈ unseen (cut es t seen) seen) : (unseen (cut es t (seen.push e.2.2)) (seen.push e.2.2)).length < (unseen (cut es t seen) seen).length := by
  have e1 : unseen (cut es t (seen.push e.2.2)) (seen.push e.2.2) = (unseen (cut es t seen) seen).filter fun x => !(x.2.2 == e.2.2) := by
    unfold unseen cut
    rw [List.filter_filter, List.filter_filter, List.filter_filter]
    apply List.filter_congr
    intro x _
    rw [contains_push]
    cases seen.contains x.2.2 <;> cases (x.2.2 == e.2.2) <;> simp
  rw [e1]
  exact List.length_filter_lt_length_iff_exists.2 ⟨e, he, by simp⟩
end
def meetE (xs ys : List Bool) : Int := if xs.length ≠ ys.length then 142 else if xs ≠ ys then 143 else 0
set_option maxHeartbeats 4000000 in
set_option maxRecDepth 100000 in
theorem meet_calls (p q r r2 clk clk2 : Nat) (v v2 : Value) (xs ys : List Bool) (es fs : Es Bool) (w : World) (hs : St w p v r xs es clk) (ht : St w q v2 r2 ys fs clk2) (hrr : r2 ≠ r) (hm : xs.length ≤ 140737488355328) :
    Calls Tryd.prog 77 #[.pointer (some ⟨p, 0, none⟩), .pointer (some ⟨q, 0, none⟩)] w fun e w' => e = .returned (.int .i64 (meetE xs ys)) ∧ Fr w w' [r] ∧ (meetE xs ys = 0 → ∃ es' clk', St w' p v r xs es' clk' ∧ ∀ k, look es' k = meetK (look es) (look fs) k) := by
  obtain ⟨SA, sc, rfl, hr⟩ := hs.row.slice
  obtain ⟨TA, tc, rfl, htr⟩ := ht.row.slice
  have hlt := blk_lt hs.blk
  have hltq := blk_lt ht.blk
  have c0 := blk_cell hs.blk 0
  have d0 := blk_cell ht.blk 0
  have HS0 := Aside0.mk hs
  have HT0 := Aside0.mk ht
  have HR := Aside0.mk hr
  have HRT := Aside0.mk htr
  clear hs ht hr htr
  by_cases hlen : xs.length = ys.length
  case neg =>
    have e : meetE xs ys = 142 := by unfold meetE; rw [if_pos hlen]
    rw [e]
    have n1 : (xs.length != ys.length) = true := by simpa using hlen
    have n2 : (xs.length == ys.length) = false := by simpa using hlen
    clear e hlen
    go_enter Tryd.func77, Tryd.ntmps77
    go_wp2
    go_region_with (first | (go_at_call 46; (refine (height_fr p _ _ _ _ HS0.out.blk (by (with_reducible (repeat (first | refine Fr.drew ?_ | refine Fr.drewN ?_ _ | refine Fr.alloc ?_ _ | refine Fr.setCell ?_ _ _ ?_))); exact Fr.refl _ _)).mono ?_); rintro e w' ⟨rfl, ⟨nd, rfl⟩⟩) | (go_at_call 46; (refine (height_fr q _ _ _ _ HT0.out.blk (by (with_reducible (repeat (first | refine Fr.drew ?_ | refine Fr.drewN ?_ _ | refine Fr.alloc ?_ _ | refine Fr.setCell ?_ _ _ ?_))); exact Fr.refl _ _)).mono ?_); rintro e w' ⟨rfl, ⟨nd2, rfl⟩⟩))
    all_goals (
      go_wp2
      go_ret
      exact ⟨rfl, FQ, fun h => absurd h (by decide)⟩)
  case pos =>
    have n1 : (xs.length != ys.length) = false := by simpa using hlen
    have n2 : (xs.length == ys.length) = true := by simpa using hlen
    go_enter Tryd.func77, Tryd.ntmps77
    go_upto_region 1 with fail
    go_cut [19] (fun b wx => b = .bool false ∧ Aside0 (Fr w wx []))
    case first =>
      go_region_with (first | (go_at_call 46; (refine (height_fr p _ _ _ _ HS0.out.blk (by (with_reducible (repeat (first | refine Fr.drew ?_ | refine Fr.drewN ?_ _ | refine Fr.alloc ?_ _ | refine Fr.setCell ?_ _ _ ?_))); exact Fr.refl _ _)).mono ?_); rintro e w' ⟨rfl, ⟨nd, rfl⟩⟩) | (go_at_call 46; (refine (height_fr q _ _ _ _ HT0.out.blk (by (with_reducible (repeat (first | refine Fr.drew ?_ | refine Fr.drewN ?_ _ | refine Fr.alloc ?_ _ | refine Fr.setCell ?_ _ _ ?_))); exact Fr.refl _ _)).mono ?_); rintro e w' ⟨rfl, ⟨nd2, rfl⟩⟩))
      all_goals (
        go_wp2
        go_meet
        exact ⟨rfl, ⟨FQ⟩⟩)
    case rest =>
    obtain ⟨rfl, HF⟩ := hcut
    clear n1 n2 c0 d0
    have c0 := blk_cell (HF.out.blk HS0.out.blk (by simp)) 0
    have hltc : p < wc.heap.size := Nat.lt_of_lt_of_le hlt HF.out.size
    go_wp2
    go_loopg [26] xs.length (fun kq b wr => ∃ k : Nat, b = .int .i64 k ∧ k ≤ xs.length ∧ Aside0 (xs.length - k ≤ kq) ∧ Aside0 (Fr w wr []) ∧ Aside0 (xs.take k = ys.take k))
    case atStart => exact ⟨0, rfl, Nat.zero_le _, ⟨Nat.le_refl _⟩, HF, ⟨rfl⟩⟩
    case round =>
      obtain ⟨k, rfl, hk, HM, HFr, HTk⟩ := hrel
      clear c0 hltc
      by_cases hkl : k < xs.length
      · have n3 : decide (k < xs.length) = true := by simpa using hkl
        have b0 : (0 : Int) ≤ (k : Int) := by omega
        have b1 : (k : Int) < xs.length := by omega
        have b2 : (k : Int) < ys.length := by omega
        have hky : k < ys.length := by omega
        obtain ⟨x, hx⟩ : ∃ x, xs.getD k false = x := ⟨_, rfl⟩
        obtain ⟨y, hy⟩ : ∃ y, ys.getD k false = y := ⟨_, rfl⟩
        obtain ⟨ad, rfl, hca⟩ := HR.out.2.2 (by omega)
        obtain ⟨bd, rfl, hcb⟩ := HRT.out.2.2 (by omega)
        have ca := fr_at (hca k hkl) HFr.out (by simp)
        have cb := fr_at (hcb k hky) HFr.out (by simp)
        rw [hx] at ca
        rw [hy] at cb
        have HX := Aside0.mk hx
        have HY := Aside0.mk hy
        have d0 := blk_cell (HFr.out.blk HT0.out.blk (by simp)) 0
        have hltq' : q < wr.heap.size := Nat.lt_of_lt_of_le hltq HFr.out.size
        have HL := Aside0.mk hlen
        clear hca hcb hx hy hlen
        go_wp2
        have s1 : (wr.alloc (.cells #[.bool x] 137)).cell? ⟨wr.heap.size, 0, none⟩ = some (.bool x) := blk_cell (blk_newN (w := wr) (o := .cells #[.bool x] 137) rfl) 0
        have s2 : (wr.alloc (.cells #[.bool x] 137)).cell? ⟨q, 0, none⟩ = some (.slice (some bd) ys.length tc) := blk_cell (blk_alloc (HFr.out.blk HT0.out.blk (by simp)) _) 0
        have s3 : (wr.alloc (.cells #[.bool x] 137)).cell? (bd.add k) = some (.bool y) := fr_at cb (Fr.alloc (Fr.refl _ []) _) (by simp)
        by_cases hxy : x = y
        case neg =>
          go_region_held3 (fun w' => w'.cell? ⟨wr.heap.size, 0, none⟩ = some (.bool x) ∧ w'.cell? ⟨q, 0, none⟩ = some (.slice (some bd) ys.length tc) ∧ w'.cell? (bd.add k) = some (.bool y)) (first | exact ⟨s1, s2, s3⟩ | go_keep) (fail)
          go_wp2
          go_ret
          have e : meetE xs ys = 143 := by
            unfold meetE
            rw [if_neg (by have := HL.out; omega), if_pos]
            rintro rfl
            exact hxy (HX.out.symm.trans HY.out)
          exact ⟨by rw [e]; rfl, ((HFr.out.mono (by simp)).alloc _).drew, fun h => absurd (e.symm.trans h) (by decide)⟩
        case pos =>
          subst hxy
          go_region_held3 (fun w' => w'.cell? ⟨wr.heap.size, 0, none⟩ = some (.bool x) ∧ w'.cell? ⟨q, 0, none⟩ = some (.slice (some bd) ys.length tc) ∧ w'.cell? (bd.add k) = some (.bool x)) (first | exact ⟨s1, s2, s3⟩ | go_keep) (fail)
          go_wp2
          go_roundg (xs.length - (k + 1))
          case measure => have := HM.out; omega
          case rel =>
            refine ⟨k + 1, by go_num, by omega, ⟨Nat.le_refl _⟩, ⟨(HFr.out.alloc _).drew⟩, ⟨?_⟩⟩
            have hx := HX.out
            have hy := HY.out
            rw [List.take_add_one, List.take_add_one, HTk.out, List.getElem?_eq_getElem hkl, List.getElem?_eq_getElem hky]
            rw [List.getD_eq_getElem?_getD, List.getElem?_eq_getElem hkl] at hx
            rw [List.getD_eq_getElem?_getD, List.getElem?_eq_getElem hky] at hy
            simp only [Option.getD_some] at hx hy
            rw [hx, hy]
      · obtain rfl : k = xs.length := by omega
        have n3 : decide (xs.length < xs.length) = false := by simp
        have hxy : xs = ys := by
          have := HTk.out
          rw [List.take_length, hlen, List.take_length] at this
          exact this
        subst hxy
        have c1 := blk_cell (HFr.out.blk HS0.out.blk (by simp)) 1
        have hltc : p < wr.heap.size := Nat.lt_of_lt_of_le hlt HFr.out.size
        clear HTk HR HRT
        go_wp2_with (first | (at_range; refine wpl_range (.tmp 45) wr.heap.size rfl rfl rfl Tryd.underlying110 rfl (HFr.out.blk HS0.out.mp (by simp)) ?_))
        go_loopg [] ((unseen (cut es (look fs) #[]) #[]).length) (fun kq w2 => ∃ seen : Array Nat, Aside0 ((unseen (cut es (look fs) seen) seen).length ≤ kq) ∧ Aside0 (Fr w w2 [r]) ∧ Aside0 (w2.heap[wr.heap.size]? = some (.mapIter (some r) clk seen clk)) ∧ Aside0 (w2.heap[r]? = some (obj encB (cut es (look fs) seen) clk)))
        case atStart => exact ⟨#[], ⟨Nat.le_refl _⟩, ⟨(HFr.out.mono (by simp)).alloc _⟩, ⟨blk_newN rfl⟩, ⟨by rw [cut_nil]; exact blk_alloc (HFr.out.blk HS0.out.mp (by simp)) _⟩⟩
        case round =>
          obtain ⟨seen, HM, HFw, HIt, HMp⟩ := hrel
          have hszr := HFr.out.size
          clear c1 hltc
          have hr2 := blk_lt HT0.out.mp
          have hrl := blk_lt HS0.out.mp
          have hq : q ≠ r := fun e => by have h1 := HT0.out.blk; rw [e, HS0.out.mp] at h1; simp [obj] at h1
          go_wp2_with (first | (at_next; refine wpl_nextB (.tmp 46) rfl rfl rfl HIt.out HMp.out (Good.filter HS0.out.good _) (fun hd => ?_) (fun ke be ne he W hFW hitW hen => have HIW := Aside0.mk hitW; have HE0 := Aside0.mk he; have HFS := Aside0.mk (hFW.blk (HFw.out.blk HT0.out.mp (by simpa using hrr)) (by simp; omega)); have HMW := Aside0.mk (hFW.blk HMp.out (by simp; omega)); have HQW := Aside0.mk (hFW.blk (HFw.out.blk HT0.out.blk (by simpa using hq)) (by simp; omega)); have HPW := Aside0.mk (hFW.blk (HFw.out.blk HS0.out.blk (by simpa using HS0.out.ne_pr)) (by simp; omega)); have hq1 := blk_cell HQW.out 1; have hp1 := blk_cell HPW.out 1; have hql := blk_lt HQW.out; have hpl := blk_lt HPW.out; have HFT := Aside0.mk (HFw.out.trans hFW (by intro i hi; simp at hi; simp; omega)); have hmem : (ke, be, ne) ∈ es := (List.mem_filter.1 (List.mem_filter.1 he).1).1; have HME := Aside0.mk hmem; have hq2 : (W.alloc (.cells #[.bool be] 137)).cell? ⟨q, 1, none⟩ = some (.map (some r2)) := blk_cell (blk_alloc HQW.out _) 1; have hp2 : ∀ c, ((W.alloc (.cells #[.bool be] 137)).alloc c).cell? ⟨p, 1, none⟩ = some (.map (some r)) := fun c => blk_cell (blk_alloc (blk_alloc HPW.out _) c) 1; ?_)) | (at_lookup; refine wpl_look (.tmp 56) (.tmp 57) rfl rfl rfl rfl (by (with_reducible (repeat (first | apply blk_drew | apply blk_alloc | apply blk_set))); exact HFS.out) ?_) | (at_delete; refine wpl_del (.tmp 71) (.tmp 72) rfl rfl rfl rfl (by (with_reducible (repeat (first | apply blk_drew | apply blk_alloc | apply blk_set))); exact HMW.out) ?_; intro W2 hF2 hM2; have HF2 := Aside0.mk hF2; have HM2 := Aside0.mk hM2; clear hF2 hM2))
          · go_ret
            have e : meetE xs xs = 0 := by unfold meetE; rw [if_neg (by simp), if_neg (by simp)]
            exact ⟨by rw [e]; rfl, HFw.out, fun _ => ⟨cut es (look fs) seen, clk, ⟨HFw.out.blk HS0.out.blk (by simpa using HS0.out.ne_pr), HS0.out.row.fr HFw.out (fun k hk => by simpa using HS0.out.row.neMap HS0.out.mp k hk), HMp.out, Good.filter HS0.out.good _⟩, fun k => cut_done HS0.out.good hd k⟩⟩
          all_goals first
            | (have ht : look fs ke ≠ some be := by (intro h9; simp_all; done)
               have hlc := cut_less HE0.out
               go_roundg ((unseen (cut es (look fs) (seen.push ne)) (seen.push ne)).length)
               case measure => have := HM.out; simp at hlc ⊢; omega
               case rel =>
                 refine ⟨seen.push ne, ⟨Nat.le_refl _⟩, ⟨((HFT.out.alloc _).alloc _).trans HF2.out (by simp)⟩, ⟨HF2.out.blk (blk_alloc (blk_alloc HIW.out _) _) (by simp; omega)⟩, ⟨?_⟩⟩
                 rw [cut_drop HS0.out.good HME.out ht]
                 exact HM2.out)
            | (have ht : look fs ke = some be := by (cases h9 : look fs ke <;> simp_all; done)
               have hlc := cut_less HE0.out
               go_roundg ((unseen (cut es (look fs) (seen.push ne)) (seen.push ne)).length)
               case measure => have := HM.out; simp at hlc ⊢; omega
               case rel =>
                 refine ⟨seen.push ne, ⟨Nat.le_refl _⟩, ⟨(HFT.out.alloc _).alloc _⟩, ⟨blk_alloc (blk_alloc HIW.out _) _⟩, ⟨?_⟩⟩
                 rw [cut_keep HS0.out.good HME.out ht]
                 exact blk_alloc (blk_alloc HMW.out _) _)
            | (exfalso; simp_all; done)
end Go.Proofs.YtmfbdmjgkcijcaaDoor.H
