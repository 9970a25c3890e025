/- The reference's Verify: plain, and most. -/
import Derived.Test.YtmfbdmjgkcijcaaDoorZV
import Derived.Test.YtmfbdmjgkcijcaaDoorZRM
namespace Go.Proofs.YtmfbdmjgkcijcaaDoor.H
open Go.RowKit Go.Proofs.YtmfbdmjgkcijcaaDoorW.PrintWords Go.Proofs.YtmfbdmjgkcijcaaDoorW.PrintLast Go.Proofs.YtmfbdmjgkcijcaaDoorW.PrintMore
open Go.ChangeMaps (setBlock)
attribute [local go_sem] max2_int min2_int max_two min_two max_three min_three max_four min_four
set_option linter.unusedVariables false
set_option linter.unusedSimpArgs false
open Go.Proofs.YtmfbdmjgkcijcaaDoor.M
def mostR (a b : Int) : Int := if b < a then a else b
def noteR (a : Acc) (x : S64) (h : Nat) : Acc := ⟨mostR a.stack h, wrap64 (a.fuel + 1), if x.f0 = 3 then mostR a.back x.f2 else a.back, if x.f0 = 6 ∨ x.f0 = 7 then mostR a.slots (x.f1 + 1) else a.slots, if x.f0 = 4 ∨ x.f0 = 5 then mostR a.cell (x.f1 + 1) else a.cell⟩
/-- What a day adds, from instruction k on. -/
def noteSeg (code : List S64) (l : List RS) : Nat → Nat → Acc → Acc
  | 0, _, acc => acc
  | m + 1, k, acc => noteSeg code l m (k + 1) (noteR acc (code.getD k z64) (l.getD k (false, [], [])).2.1.length)
def refDays : List S41 → Acc → Int × Acc
  | [], acc => (0, acc)
  | s :: rest, acc => if (refSeg s.f1 s.f0 s.f1.length 0 (initR s.f1.length)).1 = 0 then refDays rest (noteSeg s.f1 (refSeg s.f1 s.f0 s.f1.length 0 (initR s.f1.length)).2 s.f1.length 0 acc) else ((refSeg s.f1 s.f0 s.f1.length 0 (initR s.f1.length)).1, acc)
/-- What the reference's Verify comes to. -/
def verifyR (names curs : List ByteArray) (pool : List Int) (hor cel slo sta : Int) (days : List S41) : Int × Acc :=
  if canonP names curs pool hor cel slo sta days ≠ 0 then (canonP names curs pool hor cel slo sta days, acc0) else
  if (refDays days acc0).1 ≠ 0 then refDays days acc0 else
  if sta ≠ (refDays days acc0).2.stack ∨ slo ≠ (refDays days acc0).2.slots ∨ cel ≠ (refDays days acc0).2.cell then (147, (refDays days acc0).2) else (0, (refDays days acc0).2)
def VerRPost (r : Int × Acc) (w : World) (e : Ending) (w' : World) : Prop :=
  ∃ (st : Acc) (d k : Int), e = .returned (.tuple #[.agg #[.int .i64 st.stack, .int .i64 st.fuel, .int .i64 st.back], .int .i64 d, .int .i64 k, .int .i64 r.1]) ∧ Fr w w' [] ∧ (r.1 = 0 → st = r.2)
theorem noteSeg_step {code : List S64} {l : List RS} {k : Nat} {acc : Acc} {x : S64} {v : RS} (hk : k < code.length) (hx : code.getD k z64 = x) (hv : l.getD k (false, [], []) = v) : noteSeg code l (code.length - k) k acc = noteSeg code l (code.length - (k + 1)) (k + 1) (noteR acc x v.2.1.length) := by
  rw [show code.length - k = (code.length - (k + 1)) + 1 by omega]
  simp only [noteSeg]
  rw [hx, hv]
theorem refDays_err {rest : List S41} {day : Int} {code : List S64} {acc : Acc} {e : Int} {l : List RS} (h : refSeg code day code.length 0 (initR code.length) = (e, l)) (he : e ≠ 0) : refDays (⟨day, code⟩ :: rest) acc = (e, acc) := by
  simp only [refDays]
  rw [h, if_neg he]
theorem refDays_on {rest : List S41} {day : Int} {code : List S64} {acc : Acc} {l : List RS} (h : refSeg code day code.length 0 (initR code.length) = (0, l)) : refDays (⟨day, code⟩ :: rest) acc = refDays rest (noteSeg code l code.length 0 acc) := by
  simp only [refDays]
  rw [h, if_pos rfl]
theorem verR_err {r : Int × Acc} {w W : World} {a b c d k err : Int} (h : r.1 = err) (hf : Fr w W []) (hz : err ≠ 0) : VerRPost r w (.returned (.tuple #[.agg #[.int .i64 a, .int .i64 b, .int .i64 c], .int .i64 d, .int .i64 k, .int .i64 err])) W :=
  ⟨⟨a, b, c, 0, 0⟩, d, k, by rw [h], hf, fun h0 => absurd (h ▸ h0) hz⟩
theorem verR_ok {r : Int × Acc} {w W : World} {acc : Acc} {d k : Int} (h : r = (0, acc)) (hf : Fr w W []) : VerRPost r w (.returned (.tuple #[.agg #[.int .i64 acc.stack, .int .i64 acc.fuel, .int .i64 acc.back], .int .i64 d, .int .i64 k, .int .i64 0])) W := by
  subst h
  exact ⟨acc, d, k, rfl, hf, fun _ => rfl⟩
theorem dayRun_end {cel slo : Int} {code : List S64} : ∀ (m k : Nat) (b b' : BL), dayRun cel slo code m k b = (true, b') → ∀ j, k ≤ j → j < k + m → (decide ((code.getD j z64).f0 = 0) != decide (j + 1 = code.length)) = false
  | 0, _, _, _, _ => fun j h1 h2 => by omega
  | m + 1, k, b, b', h => by
    intro j h1 h2
    unfold dayRun at h
    split at h
    · rename_i h9
      rcases Nat.lt_or_ge k j with h3 | h3
      · exact dayRun_end m (k + 1) _ b' h j (by omega) (by omega)
      · obtain rfl : j = k := by omega
        unfold dayStep at h9
        split at h9
        · exact absurd h9 (by simp)
        · split at h9
          · exact absurd h9 (by simp)
          · rename_i h7; exact Bool.eq_false_iff.2 h7
    · rename_i h9
      rw [h] at h9
      exact absurd rfl h9
/-- A day's only End is its last instruction. -/
def EndOk (s : S41) : Prop := ∀ (j : Nat) (x : S64), s.f1[j]? = some x → (x.f0 = 0 ↔ j + 1 = s.f1.length)
theorem dayU_end {cel slo : Int} {s : S41} {b : BL} (h : (dayU cel slo s.f1 b).1 = true) : EndOk s := by
  obtain ⟨R, hR⟩ : ∃ R, dayU cel slo s.f1 b = R := ⟨_, rfl⟩
  obtain ⟨rb, b2⟩ := R
  rw [hR] at h
  simp only at h
  subst h
  unfold dayU at hR
  split at hR
  · exact absurd (congrArg (·.1) hR) (by simp)
  · intro j x hx
    have hj := (List.getElem?_eq_some_iff.1 hx).1
    have h3 := dayRun_end _ _ _ _ hR j (by omega) (by omega)
    rw [List.getD_eq_getElem?_getD, hx] at h3
    simpa [Bool.beq_eq_decide_eq] using h3
theorem canonDays_end {hor cel slo : Int} : ∀ (days : List S41) (cnt last : Int) (b b' : BL), canonDays hor cel slo days cnt last b = some b' → ∀ s ∈ days, EndOk s
  | [], _, _, _, _, _ => by simp
  | s :: rest, cnt, last, b, b', h => by
    unfold canonDays at h
    split at h
    · cases h
    split at h
    · cases h
    split at h
    · cases h
    split at h
    · cases h
    rename_i h1 h2 h3 h4
    intro x hx
    rcases List.mem_cons.1 hx with rfl | hx
    · exact dayU_end (by simpa using h4)
    · exact canonDays_end rest _ _ _ _ h x hx
theorem canonP_end {names curs : List ByteArray} {pool : List Int} {hor cel slo sta : Int} {days : List S41} (h : canonP names curs pool hor cel slo sta days = 0) : ∀ s ∈ days, EndOk s := by
  unfold canonP at h
  split at h
  · exact absurd h (by decide)
  split at h
  · exact absurd h (by decide)
  · rename_i b hb
    exact canonDays_end _ _ _ _ _ hb
theorem handTo_len (b : RS) (l : List RS) (t : Nat) : (handTo b l t).2.length = l.length := by
  unfold handTo
  split
  · rfl
  · exact List.length_set
theorem hand1_len (x : S64) (k : Nat) (b : RS) (l : List RS) : (hand1 x k b l).2.length = l.length := by
  unfold hand1
  split
  · rfl
  · exact handTo_len _ _ _
theorem hand2_len (x : S64) (k : Nat) (b : RS) (r : Int × List RS) : (hand2 x k b r).2.length = r.2.length := by
  unfold hand2
  split
  · rfl
  · split
    · exact handTo_len _ _ _
    · rfl
theorem refStep_len (code : List S64) (day : Int) (k : Nat) (l : List RS) : (refStep code day k l).2.length = l.length := by
  unfold refStep
  simp only
  split
  · rfl
  · rw [hand2_len, hand1_len]
theorem refSeg_len (code : List S64) (day : Int) : ∀ (m k : Nat) (l : List RS), (refSeg code day m k l).2.length = l.length
  | 0, _, _ => rfl
  | m + 1, k, l => by
    unfold refSeg
    split
    · rw [refSeg_len code day m, refStep_len]
    · exact refStep_len _ _ _ _
theorem initR_len (n : Nat) : (initR n).length = n := by simp [initR]
theorem sget {w : World} {S : Nat} {l : List RV} {ad : Addr} {T : Nat} (h : w.heap[S]? = some (.cells (l.flatMap RV.cells).toArray T (0, 0))) (had : ad = ⟨S, 0, none⟩) {j : Nat} {v : RV} (hj : l[j]? = some v) : w.cell? ⟨(ad.add (j * 3)).block, (ad.add (j * 3)).off + 1, none⟩ = some (.slice v.A v.xs.length v.c) := by
  subst had
  rw [add_ad]
  have hg := flat_get l j v hj 1 (by omega)
  rw [blk_cell h]
  simpa [RV.cells] using hg
set_option maxHeartbeats 4000000 in
set_option maxRecDepth 100000 in
theorem most_calls (a b : Int) (w : World) : Calls Tryd.prog 33 #[.int .i64 a, .int .i64 b] w fun e w' => e = .returned (.int .i64 (mostR a b)) ∧ Drawn0 w w' := by
  by_cases h : b < a
  · have n1 : decide (b < a) = true := by simpa using h
    have hm : mostR a b = a := if_pos h
    rw [hm]
    go_enter Tryd.func33, Tryd.ntmps33
    go_wp2
    go_ret
    exact ⟨rfl, DQ⟩
  · have n1 : decide (b < a) = false := by simpa using h
    have hm : mostR a b = b := if_neg h
    rw [hm]
    go_enter Tryd.func33, Tryd.ntmps33
    go_wp2
    go_ret
    exact ⟨rfl, DQ⟩
end Go.Proofs.YtmfbdmjgkcijcaaDoor.H
