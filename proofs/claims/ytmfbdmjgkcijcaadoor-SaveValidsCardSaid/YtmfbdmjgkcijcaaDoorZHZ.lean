/- slices.Contains over bools; image.Canon. -/
import Derived.Test.YtmfbdmjgkcijcaaDoorZV
import Derived.Test.YtmfbdmjgkcijcaaDoorZHY
import Derived.Outline
namespace Go.Proofs.YtmfbdmjgkcijcaaDoor.H
open Go.RowKit Go.Proofs.YtmfbdmjgkcijcaaDoorW.PrintWords Go.Proofs.YtmfbdmjgkcijcaaDoorW.PrintLast Go.Proofs.YtmfbdmjgkcijcaaDoorW.PrintMore
open Go.ChangeMaps (setBlock)
attribute [local go_sem] max2_int min2_int max_two min_two max_three min_three max_four min_four
set_option linter.unusedVariables false
set_option linter.unusedSimpArgs false
open Go.Proofs.YtmfbdmjgkcijcaaDoor.M
set_option maxHeartbeats 4000000 in
set_option maxRecDepth 100000 in
theorem indexB_calls (g : Nat) (l : List Bool) (w : World) (hg : w.heap[g]? = some (.cells (bcells l) 4 (0, 0))) (hl : l.length ≤ 1000000) :
    Calls Tryd.prog 71 #[.slice (some ⟨g, 0, none⟩) l.length l.length, .bool false] w fun e w' => (∃ i : Int, e = .returned (.int .i64 i) ∧ (0 ≤ i ↔ l.contains false = true)) ∧ Drawn0 w w' := by
  have HGB := Aside0.mk hg
  clear hg
  go_enter Tryd.func71, Tryd.ntmps71
  go_wp2
  go_loopg [8] l.length (fun kq x wr => ∃ k : Nat, x = .int .i64 k ∧ k ≤ l.length ∧ Aside0 (l.length - k ≤ kq) ∧ Drawn0 w wr ∧ Aside0 ((l.take k).contains false = false))
  case atStart => exact ⟨0, rfl, Nat.zero_le _, ⟨Nat.le_refl _⟩, DQ, ⟨rfl⟩⟩
  case round =>
    obtain ⟨k, rfl, hk, HM, ⟨nk, rfl⟩, HA⟩ := hrel
    by_cases hkl : k < l.length
    · have n3 : decide (k < l.length) = true := by simpa using hkl
      have p0 : (0 : Int) ≤ (k : Int) := by omega
      have p1 : (k : Int) < l.length := by omega
      obtain ⟨x, hx⟩ : ∃ x, l.getD k false = x := ⟨_, rfl⟩
      have h1 : w.cell? ⟨g, k, none⟩ = some (.bool x) := by rw [blk_cell HGB.out k, bcells_get l k hkl, hx]
      have hxm : l[k]? = some x := by rw [List.getD_eq_getElem?_getD, List.getElem?_eq_getElem hkl] at hx; rw [List.getElem?_eq_getElem hkl]; simpa using hx
      have HX := Aside0.mk hxm
      clear hx hxm
      cases x
      · go_wp2
        go_ret
        exact ⟨⟨k, rfl, iff_of_true p0 (by simpa using List.mem_of_getElem? HX.out)⟩, DQ⟩
      · go_wp2
        go_roundg (l.length - (k + 1))
        case measure => have := HM.out; omega
        case rel =>
          refine ⟨k + 1, by go_num, by omega, ⟨Nat.le_refl _⟩, DQ, ⟨?_⟩⟩
          have ha := HA.out
          rw [List.take_add_one, HX.out]
          simp at ha ⊢
          exact ha
    · obtain rfl : k = l.length := by omega
      have n3 : decide (l.length < l.length) = false := by simp
      have ha := HA.out
      rw [List.take_length] at ha
      have HA2 := Aside0.mk ha
      clear ha HA
      go_wp2
      go_ret
      exact ⟨⟨-1, rfl, iff_of_false (by decide) (by rw [HA2.out]; decide)⟩, DQ⟩
set_option maxHeartbeats 4000000 in
set_option maxRecDepth 100000 in
theorem containsB_calls (g : Nat) (l : List Bool) (w : World) (hg : w.heap[g]? = some (.cells (bcells l) 4 (0, 0))) (hl : l.length ≤ 1000000) (b : Bool) (hb : l.contains false = b) :
    Calls Tryd.prog 45 #[.slice (some ⟨g, 0, none⟩) l.length l.length, .bool false] w fun e w' => e = .returned (.bool b) ∧ Drawn0 w w' := by
  have HI := Aside0.mk (indexB_calls g l w hg hl)
  have HB := Aside0.mk hb
  clear hg hb
  go_enter Tryd.func45, Tryd.ntmps45
  go_wp2_with (first | (go_at_call 71; (refine (HI.out).mono ?_); rintro e w' ⟨⟨i, rfl, hi⟩, ⟨nd, rfl⟩⟩; have HIF := Aside0.mk hi; clear hi))
  go_ret
  refine ⟨?_, DQ⟩
  have h1 := HIF.out
  rw [HB.out] at h1
  cases b
  · have h2 : decide (0 ≤ i) = false := by simpa using h1
    simp [h2]
  · have h2 : decide (0 ≤ i) = true := by simpa using h1
    simp [h2]
def canonDays (hor cel slo : Int) : List S41 → Int → Int → BL → Option BL
  | [], _, _, b => some b
  | s :: rest, cnt, last, b => if s.f0 ≤ last then none else if hor < s.f0 then none else if 262144 < cnt + s.f1.length then none else if (dayU cel slo s.f1 b).1 = false then none else canonDays hor cel slo rest (cnt + s.f1.length) s.f0 (dayU cel slo s.f1 b).2
def bl0 (names curs : List ByteArray) (pool : List Int) : BL := (List.replicate names.length false, List.replicate curs.length false, List.replicate pool.length false)
def canonP (names curs : List ByteArray) (pool : List Int) (hor cel slo sta : Int) (days : List S41) : Int :=
  if listsB names curs pool hor cel slo sta = false then 121 else
  match canonDays hor cel slo days 0 (-1) (bl0 names curs pool) with
  | none => 121
  | some b => if b.1.contains false = true then 121 else if b.2.1.contains false = true then 121 else if b.2.2.contains false = true then 121 else 0
theorem dayU_len (cel slo : Int) (code : List S64) (b : BL) : (dayU cel slo code b).2.1.length = b.1.length ∧ (dayU cel slo code b).2.2.1.length = b.2.1.length ∧ (dayU cel slo code b).2.2.2.length = b.2.2.length := by
  unfold dayU
  split
  · exact ⟨rfl, rfl, rfl⟩
  · have hs : ∀ k (b : BL), (dayStep cel slo code.length k (code.getD k z64) b).2.1.length = b.1.length ∧ (dayStep cel slo code.length k (code.getD k z64) b).2.2.1.length = b.2.1.length ∧ (dayStep cel slo code.length k (code.getD k z64) b).2.2.2.length = b.2.2.length := by
      intro k b
      unfold dayStep
      split
      · exact ⟨rfl, rfl, rfl⟩
      split
      · exact ⟨rfl, rfl, rfl⟩
      · exact useStep_len cel slo _ _ b
    have h : ∀ m k (b : BL), (dayRun cel slo code m k b).2.1.length = b.1.length ∧ (dayRun cel slo code m k b).2.2.1.length = b.2.1.length ∧ (dayRun cel slo code m k b).2.2.2.length = b.2.2.length := by
      intro m
      induction m with
      | zero => intro k b; exact ⟨rfl, rfl, rfl⟩
      | succ m ih =>
        intro k b
        unfold dayRun
        have h1 := hs k b
        split
        · have h2 := ih (k + 1) (dayStep cel slo code.length k (code.getD k z64) b).2
          exact ⟨h2.1.trans h1.1, h2.2.1.trans h1.2.1, h2.2.2.trans h1.2.2⟩
        · exact h1
    exact h _ _ _
theorem infoB : (Tryd.prog.info? 4).map (fun i => (i.zero, i.size, i.bytes)) = some (some (.bool false), 1, 1) := by kernel_rfl
theorem mk_run (n : Nat) (hn : n ≤ 1000000) (W : World) : (Instr.makeSlice 102 (.int .i64 n) (.int .i64 n)).run Tryd.prog W = .ok (.slice (some ⟨W.heap.size, 0, none⟩) n n) (W.alloc (.cells (bcells (List.replicate n false)) 4)) := by
  obtain ⟨i0, hi0, hz0, hz1, hz2⟩ := info_parts infoB
  have hr := run_make (P := Tryd.prog) W 102 4 i0 (.bool false) Tryd.underlying102 hi0 hz0 .i64 .i64 (n : Int) (n : Int) (by omega) (by omega) (by rw [hz2]; omega) (by omega)
  simp only [Int.toNat_natCast, hz1, Nat.mul_one] at hr
  have hm : madeCells (Value.bool false).cells n = bcells (List.replicate n false) := by
    apply Array.ext
    · simp [madeCells, bcells]
    · intro i h1 h2
      simp [madeCells, bcells, Value.cells, Nat.mod_one]
  rw [hm] at hr
  exact hr
end Go.Proofs.YtmfbdmjgkcijcaaDoor.H
