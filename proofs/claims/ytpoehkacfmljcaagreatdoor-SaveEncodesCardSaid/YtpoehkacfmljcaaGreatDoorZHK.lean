/- look: a program's segments gone through. -/
import Derived.Test.YtpoehkacfmljcaaGreatDoorZV
import Derived.Test.YtpoehkacfmljcaaGreatDoorZHU
import Derived.WalkMore
import Derived.Outline
set_option maxHeartbeats 4000000
set_option maxRecDepth 100000
namespace Go.Proofs.YtpoehkacfmljcaaGreatDoor.H
open Go.RowKit Go.Proofs.YtpoehkacfmljcaaGreatDoorW.PrintWords Go.Proofs.YtpoehkacfmljcaaGreatDoorW.PrintLast Go.Proofs.YtpoehkacfmljcaaGreatDoorW.PrintMore
open Go.ChangeMaps (setBlock)
attribute [local go_sem] max2_int min2_int max_two min_two max_three min_three max_four min_four
set_option linter.unusedVariables false
set_option linter.unusedSimpArgs false
open Go.Proofs.YtpoehkacfmljcaaGreatDoor.M
theorem app1 {ops : Array Oper} {rest : List Oper} {o : Oper} {a : Act} {Q : Exit → Act → World → Prop} {W : World} (T E bytes : Nat) (z : Value) (s x : Operand) (hg0 : o.guard = none) (ho : o.op = .call { callee := .builtin .append, args := #[s, x], argTypes := #[T, T] }) (ht : Tryz.prog.underlying T = some (.slice E)) (hi : (Tryz.prog.info? E).map (fun i => (i.zero, i.size, i.bytes)) = some (some z, 1, bytes)) (hz : z.cells.size = 1) (v : Value) (n : Nat) (vals : List Value) (ad : Addr) (u : Value)
    (hs : a.eval s = v) (hx : a.eval x = .slice (some ad) 1 1) (HO : W.ownsRow 0 E 1 v n vals) (hc : W.cell? ad = some u) (hu : u.oneCell' = true) (hl : n + 1 ≤ 1000000000) (hb : bytes ≤ 100)
    (h : ∀ v1 w1, w1.ownsRow 0 E 1 v1 (n + 1) (vals ++ [u]) → W.grownBy w1 v.ownBlock → (v1.ownBlock = v.ownBlock ∨ v1.ownBlock = some W.heap.size) → wpList Tryz.prog ops Q rest (a.put o.dst v1) w1) : wpList Tryz.prog ops Q (o :: rest) a W := by
  obtain ⟨i0, hi0, hz0, hz1, hz2⟩ := info_parts hi
  have hbb : (n + 1) * bytes ≤ 140737488355328 := by
    have : (n + 1) * bytes ≤ 1000000000 * 100 := Nat.mul_le_mul hl hb
    omega
  obtain ⟨v1, w1, hr, h2, h3, _, h5⟩ := run_append_own_at (P := Tryz.prog) W 0 T o.type E i0 z 1 bytes ht hi0 hz0 hz1 hz2 hz (by omega) v n vals HO ad 1 1 [u] rfl
    (by
    intro j w hw
    obtain rfl : j = 0 := by (cases j with | zero => rfl | succ j => simp at hw)
    simp at hw; subst hw; simpa [Addr.add] using hc) (by intro w hw; obtain rfl := List.mem_singleton.1 hw; exact hu) (by simp only [maxLen]; omega) hbb (Nat.zero_le _)
  exact wpl_val hg0 (exec_append ho hs hx hr) (h v1 w1 h2 h3 h5)
theorem make1 {ops : Array Oper} {rest : List Oper} {o : Oper} {a : Act} {Q : Exit → Act → World → Prop} {W : World} (T E bytes : Nat) (z : Value) (x y : Operand) (hg0 : o.guard = none) (ho : o.op = .makeSlice T x y) (ht : Tryz.prog.underlying T = some (.slice E)) (hi : (Tryz.prog.info? E).map (fun i => (i.zero, i.size, i.bytes)) = some (some z, 1, bytes)) (hz : z.cells = #[z]) (n : Nat) (hx : a.eval x = .int .i64 n) (hy : a.eval y = .int .i64 n) (hl : n ≤ 1000000000) (hb : bytes ≤ 100)
    (h : ∀ w1, Fr W w1 [] → w1.heap[W.heap.size]? = some (.cells (List.replicate n z).toArray E (0, 0)) → wpList Tryz.prog ops Q rest (a.put o.dst (.slice (some ⟨W.heap.size, 0, none⟩) n n)) w1) : wpList Tryz.prog ops Q (o :: rest) a W := by
  obtain ⟨i0, hi0, hz0, hz1, hz2⟩ := info_parts hi
  have hbb : ((i0.bytes : Nat) : Int) * (n : Int) ≤ 281474976710656 := by
    have h1 : bytes * n ≤ 100 * 1000000000 := Nat.mul_le_mul hb hl
    rw [hz2]
    have h2 : ((bytes * n : Nat) : Int) ≤ 281474976710656 := by omega
    rwa [Int.natCast_mul] at h2
  have hr := run_make (P := Tryz.prog) W T E i0 z ht hi0 hz0 .i64 .i64 (n : Int) (n : Int) (by omega) (by omega) hbb (by omega)
  simp only [Int.toNat_natCast, hz1, Nat.mul_one, hz] at hr
  have hm : madeCells #[z] n = (List.replicate n z).toArray := by
    apply Array.ext
    · simp [madeCells]
    · intro i h1 h2
      simp [madeCells, Nat.mod_one]
  rw [hm] at hr
  exact wpl_val hg0 (by unfold execOp; simp [ho, hx, hy, hr]) (h _ ((Fr.refl _ _).alloc _) (heap_alloc_new _ _))
structure Acc where
  stack : Int
  fuel : Int
  back : Int
  slots : Int
  cell : Int
def Acc.note (a : Acc) (x : S113) (h : Nat) : Acc := ⟨max a.stack h, wrap64 (a.fuel + 1), noteBack x.f0 x.f2 a.back, noteSlots x.f0 x.f1 a.slots, noteCell x.f0 x.f1 a.cell⟩
def lookStep (code : List S113) (day : Int) (k : Nat) (st : List (Option AS) × Acc) : Int × List (Option AS) × Acc :=
  match st.1[k]? with
  | some (some a) =>
    let x := code.getD k z113
    let acc := st.2.note x a.1.length
    let e := applyE (look wantsEs x.f0) (kT x.f0) x.f0 x.f1 x.f2 day a.1 a.2
    if e ≠ 0 then (e, st.1, acc) else
    let b : AS := (applyX (kT x.f0) (kP x.f0) x.f0 x.f1 a.1 a.2, applyK (kT x.f0) x.f0 x.f1 a.1 a.2)
    if (placesL x k).any (fun t => decide ((code.length : Int) ≤ t)) then (141, st.1, acc) else
    let r := handAll b st.1 (placesL x k)
    if r.1 ≠ 0 then (r.1, st.1, acc) else (0, r.2.set k none, acc)
  | _ => (146, st)
def lookSeg (code : List S113) (day : Int) : Nat → Nat → List (Option AS) × Acc → (Int × Nat) × Acc
  | 0, _, st => ((0, 0), st.2)
  | m + 1, k, st => if (lookStep code day k st).1 = 0 then lookSeg code day m (k + 1) (lookStep code day k st).2 else (((lookStep code day k st).1, k), (lookStep code day k st).2.2)
def initL (n : Nat) : List (Option AS) := (List.replicate n none).set 0 (some ([], fun _ => none))
def lookDays : List S54 → Nat → Acc → (Int × Nat × Nat) × Acc
  | [], _, acc => ((0, 0, 0), acc)
  | s :: rest, d, acc => if (lookSeg s.f1 s.f0 s.f1.length 0 (initL s.f1.length, acc)).1.1 = 0 then lookDays rest (d + 1) (lookSeg s.f1 s.f0 s.f1.length 0 (initL s.f1.length, acc)).2 else (((lookSeg s.f1 s.f0 s.f1.length 0 (initL s.f1.length, acc)).1.1, d, (lookSeg s.f1 s.f0 s.f1.length 0 (initL s.f1.length, acc)).1.2), (lookSeg s.f1 s.f0 s.f1.length 0 (initL s.f1.length, acc)).2)
def InstrOk (x : S113) : Prop := 0 ≤ x.f0 ∧ x.f0 < 29 ∧ 0 ≤ x.f1 ∧ x.f1 ≤ 1000000
def DayOk (s : S54) : Prop := 0 < s.f1.length ∧ s.f1.length ≤ 1000000 ∧ ∀ x ∈ s.f1, InstrOk x
def Acc.cells (a : Acc) (hv : Value) : Array Value := #[.int .i64 a.stack, .int .i64 a.fuel, .int .i64 a.back, hv, .int .i64 a.slots, .int .i64 a.cell]
def acc0 : Acc := ⟨0, 0, 0, 0, 0⟩
theorem info3 : (Tryz.prog.info? 3).map (fun i => (i.zero, i.size, i.bytes)) = some (some (.int .i64 0), 1, 8) := by kernel_rfl
theorem infoL : (Tryz.prog.info? 23).map (fun i => (i.zero, i.size, i.bytes)) = some (some (.slice none 0 0), 1, 24) := by kernel_rfl
def LookPost (days : List S54) (w : World) (e : Ending) (w' : World) : Prop :=
  ∃ fb hv, e = .returned (.tuple #[.pointer (some ⟨fb, 0, none⟩), .int .i64 (lookDays days 0 acc0).1.2.1, .int .i64 (lookDays days 0 acc0).1.2.2, .int .i64 (lookDays days 0 acc0).1.1]) ∧ Fr w w' [] ∧
    ((lookDays days 0 acc0).1.1 = 0 → w'.heap[fb]? = some (.cells ((lookDays days 0 acc0).2.cells hv) 141 (0, 0)) ∧ w.heap.size ≤ fb)
theorem look_err {days rest : List S54} {s : S54} {d k : Nat} {acc acc2 : Acc} {err : Int} (h : lookDays days 0 acc0 = lookDays (days.drop d) d acc) (hd : days.drop d = s :: rest) (hs : lookSeg s.f1 s.f0 s.f1.length 0 (initL s.f1.length, acc) = ((err, k), acc2)) (he : err ≠ 0) : lookDays days 0 acc0 = ((err, d, k), acc2) := by
  rw [h, hd]
  unfold lookDays
  rw [hs, if_neg he]
theorem look_on {days rest : List S54} {s : S54} {d k : Nat} {acc acc2 : Acc} (h : lookDays days 0 acc0 = lookDays (days.drop d) d acc) (hd : days.drop d = s :: rest) (hs : lookSeg s.f1 s.f0 s.f1.length 0 (initL s.f1.length, acc) = ((0, k), acc2)) : lookDays days 0 acc0 = lookDays (days.drop (d + 1)) (d + 1) acc2 := by
  rw [h, hd]
  have : days.drop (d + 1) = rest := by rw [← List.drop_drop, hd]; rfl
  rw [this]
  conv => lhs; unfold lookDays
  rw [hs, if_pos rfl]
theorem seg_step {code : List S113} {day : Int} {k : Nat} {st : List (Option AS) × Acc} (hk : k < code.length) : lookSeg code day (code.length - k) k st = if (lookStep code day k st).1 = 0 then lookSeg code day (code.length - (k + 1)) (k + 1) (lookStep code day k st).2 else (((lookStep code day k st).1, k), (lookStep code day k st).2.2) := by
  obtain ⟨m, hm⟩ : ∃ m, code.length - k = m + 1 := ⟨code.length - k - 1, by omega⟩
  have hm2 : code.length - (k + 1) = m := by omega
  rw [hm, hm2]
  rfl
theorem Fr.thenP' {a b c : World} {L : List Nat} {P : Nat → Prop} (h : Fr a b L) (k : FrP b c P) (hP : ∀ i, P i → a.heap.size ≤ i) : Fr a c L :=
  ⟨k.os.trans h.os, k.tape.trans h.tape, k.output.trans h.output, Nat.le_trans h.size k.size, fun i hi hn => (k.block i (Nat.lt_of_lt_of_le hi h.size) (fun hm => by have := hP i hm; omega)).trans (h.block i hi hn)⟩
theorem own_frP {w w' : World} {b e sz n : Nat} {v : Value} {xs : List Value} {P : Nat → Prop} (h : w.ownsRow b e sz v n xs) (hf : FrP w w' P) (hn : ∀ k, v.ownBlock = some k → ¬ P k) : w'.ownsRow b e sz v n xs := own_move h (fun k hk => hf.block k (own_lt h k hk) (hn k hk))
theorem own_isSlice {w : World} {b e sz n : Nat} {v : Value} {xs : List Value} (h : w.ownsRow b e sz v n xs) : ∃ A m c, v = .slice A m c := by
  rcases h.2 with ⟨rfl, _⟩ | ⟨g, cap, cur, rfl, _⟩ <;> exact ⟨_, _, _, rfl⟩
theorem own_fr {w w' : World} {b e sz n : Nat} {v : Value} {xs : List Value} {L : List Nat} (h : w.ownsRow b e sz v n xs) (hf : Fr w w' L) (hn : ∀ k, v.ownBlock = some k → k ∉ L) : w'.ownsRow b e sz v n xs := own_move h (fun k hk => hf.block k (own_lt h k hk) (hn k hk))
structure Inn (W0 W : World) (fb S base M : Nat) (l : List (Option SR)) (own : Nat → Nat) (fc : Array Value) (xb : Nat) (xc : Array Value) : Prop where
  fr : Fr W0 W [fb]
  fbk : W.heap[fb]? = some (.cells fc 141 (0, 0))
  sts : Sts W S l own base
  xbk : W.heap[xb]? = some (.cells xc 113 (0, 0))
  low : ∀ k, k < base → own k = l.length
  high : ∀ k, M ≤ k → own k = l.length
  fbb : fb < W0.heap.size
  xbb : M ≤ xb
  size : W0.heap.size ≤ base
  size2 : base ≤ M
theorem Inn.new {W0 W W' : World} {fb S base M xb : Nat} {l : List (Option SR)} {own : Nat → Nat} {fc xc : Array Value} (h : Inn W0 W fb S base M l own fc xb xc) (hf : Fr W W' []) : Inn W0 W' fb S base M l own fc xb xc :=
  ⟨h.fr.trans hf (by simp), hf.blk h.fbk (by simp), h.sts.fr hf, hf.blk h.xbk (by simp), h.low, h.high, h.fbb, h.xbb, h.size, h.size2⟩
theorem Inn.write {W0 W W' : World} {fb S base M xb : Nat} {l : List (Option SR)} {own : Nat → Nat} {fc xc : Array Value} {L : List Nat} (h : Inn W0 W fb S base M l own fc xb xc) (hf : Fr W W' L) (hL : ∀ i ∈ L, own i = l.length ∧ base ≤ i ∧ i ≠ S ∧ i ≠ xb) : Inn W0 W' fb S base M l own fc xb xc :=
  ⟨h.fr.trans hf (fun i hi => .inr (by have := hL i hi; have := h.size; omega)), hf.blk h.fbk (fun hm => by have := hL _ hm; have := h.fbb; have := h.size; omega),
   h.sts.frP (P := fun i => i ∈ L) ⟨hf.os, hf.tape, hf.output, hf.size, hf.block⟩ (fun hm => (hL _ hm).2.2.1 rfl) (fun k hk => by rw [(hL k hk).1]; exact Nat.le_refl _), hf.blk h.xbk (fun hm => (hL _ hm).2.2.2 rfl), h.low, h.high, h.fbb, h.xbb, h.size, h.size2⟩
theorem Inn.noted {W0 W W' : World} {fb S base M xb : Nat} {l : List (Option SR)} {own : Nat → Nat} {fc fc' xc : Array Value} (h : Inn W0 W fb S base M l own fc xb xc) (hf : Fr W W' [fb]) (hb : W'.heap[fb]? = some (.cells fc' 141 (0, 0))) : Inn W0 W' fb S base M l own fc' xb xc :=
  ⟨h.fr.trans hf (by simp), hb, h.sts.frP (P := fun i => i ∈ [fb]) ⟨hf.os, hf.tape, hf.output, hf.size, hf.block⟩ (fun hm => by have := h.sts.sab; have := h.fbb; have := h.size; simp at hm; omega) (fun k hk => by simp at hk; subst hk; rw [h.low _ (by have := h.fbb; have := h.size; omega)]; exact Nat.le_refl _), hf.blk h.xbk (by have := h.fbb; have := h.xbb; have := h.size; have := h.size2; simp; omega), h.low, h.high, h.fbb, h.xbb, h.size, h.size2⟩
theorem lookStep_eq {code : List S113} {day : Int} {k : Nat} {l : List (Option AS)} {acc : Acc} {xs : List Bool} {s : Int → Option Bool} {x : S113} (h : l[k]? = some (some (xs, s))) (hx : code.getD k z113 = x) :
    lookStep code day k (l, acc) = if applyE (look wantsEs x.f0) (kT x.f0) x.f0 x.f1 x.f2 day xs s ≠ 0 then (applyE (look wantsEs x.f0) (kT x.f0) x.f0 x.f1 x.f2 day xs s, l, acc.note x xs.length) else
      if (placesL x k).any (fun t => decide ((code.length : Int) ≤ t)) then (141, l, acc.note x xs.length) else
      if (handAll (applyX (kT x.f0) (kP x.f0) x.f0 x.f1 xs s, applyK (kT x.f0) x.f0 x.f1 xs s) l (placesL x k)).1 ≠ 0 then ((handAll (applyX (kT x.f0) (kP x.f0) x.f0 x.f1 xs s, applyK (kT x.f0) x.f0 x.f1 xs s) l (placesL x k)).1, l, acc.note x xs.length) else
      (0, (handAll (applyX (kT x.f0) (kP x.f0) x.f0 x.f1 xs s, applyK (kT x.f0) x.f0 x.f1 xs s) l (placesL x k)).2.set k none, acc.note x xs.length) := by
  unfold lookStep
  simp only [h, hx]
theorem placesL_ok {x : S113} {k : Nat} (hx : 0 ≤ x.f1) : (placesL x k).length ≤ 3 ∧ ∀ t ∈ placesL x k, 0 ≤ t := by
  unfold placesL
  split
  · simp
  split
  · first | (simp; done) | (simp; omega)
  split
  · first | (simp; done) | (simp; omega)
  · first | (simp; done) | (simp; omega)
theorem applyX_len {t u : Nat} {op A : Int} {xs : List Bool} {s : Int → Option Bool} (hu : u ≤ 1) : (applyX t u op A xs s).length ≤ xs.length + 1 := by
  unfold applyX
  rw [List.length_append, List.length_take]
  split
  · rw [List.length_singleton]; omega
  split
  · rw [List.length_singleton]; omega
  · rw [List.length_replicate]; omega
theorem results_tmp4 {fn : Func} {t u v x : Tmp} (h : fn.results = #[.tmp t, .tmp u, .tmp v, .tmp x]) (tmps : Array Value) (P : Program) (w : World) :
    (results fn tmps).run P w = .ok (.tuple #[tmps.getD t undef, tmps.getD u undef, tmps.getD v undef, tmps.getD x undef]) w := by
  simp [results, h]
theorem day_at {w : World} {A : Option Addr} {n : Nat} {xs : List S54} (h : Kd.C k54 w A n xs) (k : Nat) (hk : k < n) : ∃ ad A1 c1, A = some ad ∧ w.cell? (ad.add (k * 2)) = some (.int .i64 (xs.getD k z54).f0) ∧ w.cell? ⟨(ad.add (k * 2)).block, (ad.add (k * 2)).off + 1, none⟩ = some (.slice A1 (xs.getD k z54).f1.length c1) ∧ (xs.getD k z54).f1.length ≤ c1 ∧ Kd.C k113 w A1 (xs.getD k z54).f1.length (xs.getD k z54).f1 := by
  obtain ⟨ad, A1, c1, e, h0, h1, h2, h3⟩ := at_T54 h (k : Int) (by omega) (by omega)
  simp only [rd_T54, Int.toNat_natCast] at h0 h1 h2 h3
  exact ⟨ad, A1, c1, e, h0, h1, h2, h3⟩
theorem Sts.nones {w : World} {S n base : Nat} {own : Nat → Nat} (hS : w.heap[S]? = some (.cells (List.replicate n (.pointer none)).toArray 209 (0, 0))) (hb : base ≤ S) (hn : n ≤ 9223372036854775807) : Sts w S (List.replicate n none) own base := by
  have hno : ∀ (j : Nat) (s : SR), (List.replicate n (none : Option SR))[j]? ≠ some (some s) := fun j s h => by
    rw [List.getElem?_replicate] at h
    split at h
    · cases h
    · cases h
  exact ⟨by rw [List.map_replicate]; exact hS, fun j s h => absurd h (hno j s), fun j s h => absurd h (hno j s), fun j s h => absurd h (hno j s), hb, by simpa using hn⟩
theorem infoS : (Tryz.prog.info? 209).map (fun i => (i.zero, i.size, i.bytes)) = some (some (.pointer none), 1, 8) := by kernel_rfl
theorem look_post_err {days : List S54} {w W : World} {d k : Nat} {err : Int} {acc2 : Acc} (fb : Nat) (hL : lookDays days 0 acc0 = ((err, d, k), acc2)) (hf : Fr w W []) (hz : err ≠ 0) : LookPost days w (.returned (.tuple #[.pointer (some ⟨fb, 0, none⟩), .int .i64 d, .int .i64 k, .int .i64 err])) W :=
  ⟨fb, .slice none 0 0, by rw [hL], hf, fun h => absurd (by rw [hL] at h; exact h) hz⟩
theorem look_post_ok {days : List S54} {w W : World} {acc : Acc} (fb : Nat) (hv : Value) (hL : lookDays days 0 acc0 = ((0, 0, 0), acc)) (hf : Fr w W []) (hb : W.heap[fb]? = some (.cells (acc.cells hv) 141 (0, 0))) (hge : w.heap.size ≤ fb) : LookPost days w (.returned (.tuple #[.pointer (some ⟨fb, 0, none⟩), .int .i64 0, .int .i64 0, .int .i64 0])) W :=
  ⟨fb, hv, by rw [hL]; rfl, hf, fun _ => ⟨by rw [hL]; exact hb, hge⟩⟩
theorem look_calls (v0 v1 v2 a3 a4 a5 a6 : Value) (A : Option Addr) (c : Nat) (days : List S54) (w : World) (hC : Kd.C k54 w A days.length days) (hc : days.length ≤ c) (hdl : days.length ≤ 1000000) (hok : ∀ s ∈ days, DayOk s) (G : TabW w) :
    Calls Tryz.prog 111 #[.agg #[v0, v1, v2, a3, a4, a5, a6, .slice A days.length c]] w (LookPost days w) := by
  have HC := AsM hC
  have HG := AsM G
  have HOK := AsM hok
  clear hC hok G
  go_enter Tryz.func111, Tryz.ntmps111
  go_wp2
  go_step3
  go_wp2
  go_step3
  go_wp2
  go_loopg [7, 8, 9, 23] days.length (fun kq s7 s8 s9 s23 wr => ∃ (d : Nat) (acc : Acc) (hv : Value) (m : Nat) (vals : List Value), s7 = .int .i64 0 ∧ s8 = .int .i64 0 ∧ s9 = .int .i64 0 ∧ s23 = .int .i64 d ∧ d ≤ days.length ∧ Aside0 (days.length - d ≤ kq) ∧ Aside0 (Fr w wr []) ∧ Aside0 (wr.heap[w.heap.size + 1]? = some (.cells (acc.cells hv) 141 (0, 0))) ∧ Aside0 (wr.ownsRow 0 23 1 hv m vals) ∧ Aside0 (m ≤ d) ∧ Aside0 (∀ i, hv.ownBlock = some i → w.heap.size ≤ i) ∧ Aside0 (lookDays days 0 acc0 = lookDays (days.drop d) d acc))
  case atStart => exact ⟨0, acc0, .slice none 0 0, 0, [], rfl, rfl, rfl, rfl, Nat.zero_le _, ⟨Nat.le_refl _⟩, ⟨FQ⟩, ⟨blk_newN (by simp)⟩, ⟨⟨rfl, .inl ⟨rfl, rfl⟩⟩⟩, ⟨Nat.le_refl _⟩, ⟨fun i hi => by cases hi⟩, ⟨rfl⟩⟩
  case round =>
    obtain ⟨d, acc, hv, m, vals, rfl, rfl, rfl, rfl, hd, HM, HF, HFB, HHV, HMD, HVG, HSP⟩ := hrel
    obtain ⟨wo, hwo⟩ : ∃ wo : World, wo = wr := ⟨_, rfl⟩
    subst hwo
    by_cases hdl : d < days.length
    · have n1 : decide (d < days.length) = true := by simpa using hdl
      have b0 : (0 : Int) ≤ (d : Int) := by omega
      have b1 : (d : Int) < days.length := by omega
      obtain ⟨ad, A1, c1, rfl, h0, h1, hcap1, hC1⟩ := day_at HC.out d hdl
      have hsok : DayOk (days.getD d z54) := HOK.out _ (by rw [List.getD_eq_getElem?_getD, List.getElem?_eq_getElem hdl]; exact List.getElem_mem _)
      obtain ⟨sg, hsg⟩ : ∃ sg, days.getD d z54 = sg := ⟨_, rfl⟩
      rw [hsg] at h0 h1 hcap1 hC1 hsok
      have HSG := AsM hsg
      have HDR : Aside0 (days.drop d = sg :: days.drop (d + 1)) := ⟨by rw [← hsg, List.drop_eq_getElem_cons hdl, List.getD_eq_getElem?_getD, List.getElem?_eq_getElem hdl]; rfl⟩
      obtain ⟨day, code⟩ := sg
      simp only at h0 h1 hcap1 hC1
      have g0 := fr_at h0 HF.out (by simp)
      have g1 := fr_at h1 HF.out (by simp)
      have HC1 := AsM hC1
      have HDO := AsM hsok
      have hn0 : 0 < code.length := hsok.1
      have hn1 : code.length ≤ 1000000 := hsok.2.1
      have hut := Tryz.underlying54
      clear h0 h1 hsg hC1 hsok
      have hmm := @run_makeMap Tryz.prog
      go_wp2_with (first | (at_make; (refine make1 208 209 8 (.pointer none) (.tmp 30) (.tmp 30) rfl rfl Tryz.underlying208 infoS rfl code.length rfl rfl (by omega) (by omega) ?_; intro w1 hF1 hS0; have hS1 : w1.heap[wo.heap.size + 1]? = some (.cells (List.replicate code.length (.pointer none)).toArray 209 (0, 0)) := (by simpa using hS0); have hB1 := hF1.blk (g := wo.heap.size) (blk_newN rfl) (by simp); have HF1 := AsM hF1; have HS1 := AsM hS1; have HB1 := AsM hB1; have hS1l := blk_lt hS1; have hb1l := blk_lt hB1; have hb1c := blk_cell hB1 1; have hc01 : w1.cell? ⟨wo.heap.size + 1, 0, none⟩ = some (.pointer none) := (by rw [blk_cell hS1 0, List.getElem?_toArray, List.getElem?_replicate, if_pos hn0]); have hz01 := blk_frozen hS1 0; clear hF1 hS1 hS0 hB1)))
      have hszo := HF.out.size
      have hfb := blk_lt HFB.out
      go_loopg [7, 8, 9, 13, 40] code.length (fun kq s7 s8 s9 s13 s40 wr => ∃ (k : Nat) (l : List (Option SR)) (own : Nat → Nat) (m1 : Nat) (vals1 : List Value) (acc1 : Acc) (hv1 : Value), hv1 = s13 ∧ s7 = .int .i64 0 ∧ s8 = .int .i64 0 ∧ s9 = .int .i64 0 ∧ s40 = .int .i64 k ∧ k ≤ code.length ∧ Aside0 (code.length - k ≤ kq) ∧ Aside0 (Fr (wo.alloc (.cells #[.int .i64 day, .slice A1 code.length c1] 54)) wr [w.heap.size + 1]) ∧ Aside0 (wr.heap[w.heap.size + 1]? = some (.cells (acc1.cells hv) 141 (0, 0))) ∧ Aside0 (Sts wr (wo.heap.size + 1) l own (wo.heap.size + 1)) ∧ Aside0 (l.length = code.length) ∧ Aside0 (∀ k, k < wo.heap.size + 1 → own k = code.length) ∧ Aside0 (wr.ownsRow 0 3 1 s13 m1 vals1) ∧ Aside0 (m1 ≤ k) ∧ Aside0 (∀ g, s13.ownBlock = some g → own g = code.length ∧ wo.heap.size + 1 < g) ∧ Aside0 (∀ a, some a ∈ absL l → a.1.length ≤ k) ∧ Aside0 (lookSeg code day code.length 0 (initL code.length, acc) = lookSeg code day (code.length - k) k (absL l, acc1)))
      case atStart =>
        have hput := Sts.put (w' := (w1.alloc (.map #[] 0)).alloc (.cells #[.slice none 0 0, .map (some w1.heap.size)] 215)) (Sts.nones (own := fun _ => code.length) (base := wo.heap.size + 1) HS1.out (Nat.le_refl _) (by omega)) FQ ⟨w1.heap.size + 1, w1.heap.size, 0, .slice none 0 0, [], []⟩ ⟨blk_newN (by simp), ⟨rfl, .inl ⟨rfl, rfl⟩⟩, blk_alloc (blk_newN rfl) _, Good.nil⟩ ⟨by simp, by simp, fun k hk => by cases hk⟩ (by simpa using hn0 : 0 < (List.replicate code.length (none : Option SR)).length)
        rw [World.setCell_alloc_past _ _ _ _ (by simp; omega), World.setCell_alloc_past _ _ _ _ hS1l] at hput
        have hset : Fr w1 (w1.setCell ⟨wo.heap.size + 1, 0, none⟩ (.pointer (some ⟨w1.heap.size + 1, 0, none⟩))) [wo.heap.size + 1] := Fr.set _ _ _
        refine ⟨0, (List.replicate code.length (none : Option SR)).set 0 (some ⟨w1.heap.size + 1, w1.heap.size, 0, .slice none 0 0, [], []⟩), (fun k => if k < w1.heap.size then code.length else 0), 0, [], acc, _, rfl, rfl, rfl, rfl, rfl, Nat.zero_le _, ⟨Nat.le_refl _⟩, ⟨((HF1.out.trans (M := [wo.heap.size + 1]) hset (by simp)).alloc _ |>.alloc _).mono (by simp)⟩, ⟨blk_alloc (blk_alloc (hset.blk (HF1.out.blk (blk_alloc HFB.out _) (by simp)) (by simp; omega)) _) _⟩, ⟨hput⟩, ⟨by simp⟩, ⟨fun k hk => if_pos (by omega)⟩, ⟨⟨rfl, .inl ⟨rfl, rfl⟩⟩⟩, ⟨Nat.le_refl _⟩, ⟨fun g hg => by cases hg⟩, ⟨?_⟩, ⟨?_⟩⟩
        · intro a ha
          rw [absL_set] at ha
          rcases List.mem_or_eq_of_mem_set ha with h | h
          · unfold absL at h; simp at h
          · cases h; exact Nat.le_refl _
        · rw [absL_set, show absL (List.replicate code.length none) = List.replicate code.length none by simp [absL]]
          rfl
      case round =>
        obtain ⟨k, l, own, m1, vals1, acc1, hv1, rfl, rfl, rfl, rfl, rfl, hk, HM2, HFi, HFB2, HSS, HLL, HOW, HHS, HM1, HHO, HXL, HSEG⟩ := hrel
        have HSG2 := AsM (HFi.out.blk (g := wo.heap.size) (blk_newN rfl) (by simp; omega))
        have HFw := AsM ((HF.out.alloc (.cells #[.int .i64 day, .slice A1 code.length c1] 54)).trans HFi.out (by simp))
        by_cases hkl : k < code.length
        · have n2 : decide (k < code.length) = true := by simpa using hkl
          have p0 : (0 : Int) ≤ (k : Int) := by omega
          have p1 : (k : Int) < code.length := by omega
          obtain ⟨ad2, rfl, q0, q1, q2⟩ := instr_at (HC1.out) k hkl
          have hxo : InstrOk (code.getD k z113) := HDO.out.2.2 _ (by rw [List.getD_eq_getElem?_getD, List.getElem?_eq_getElem hkl]; exact List.getElem_mem _)
          obtain ⟨x, hx⟩ : ∃ x, code.getD k z113 = x := ⟨_, rfl⟩
          rw [hx] at q0 q1 q2 hxo
          have HX := AsM hx
          obtain ⟨op, a, b⟩ := x
          simp only at q0 q1 q2
          have r0 := fr_at q0 HFw.out (by simp)
          have r1 := fr_at q1 HFw.out (by simp)
          have r2 := fr_at q2 HFw.out (by simp)
          have HXO := AsM hxo
          have hui := Tryz.underlying113
          have hlk : k < l.length := by have := HLL.out; omega
          have hSc := blk_cell HSS.out.blk k
          have hSl := blk_lt HSS.out.blk
          clear q0 q1 q2 hx hxo g0 g1
          obtain ⟨so, hso⟩ : ∃ so, l[k]? = some so := ⟨_, List.getElem?_eq_getElem hlk⟩
          have HSO := AsM hso
          cases so with
          | none =>
            have hc1 : wr.cell? ⟨wo.heap.size + 1, k, none⟩ = some (.pointer none) := by rw [hSc]; simp [hso, ptrOf]
            clear hSc hso
            go_wp2
            (try rw [Exit.noGoto_ret])
            have hst : lookStep code day k (absL l, acc1) = (146, absL l, acc1) := by
              unfold lookStep
              rw [absL_get, HSO.out]; rfl
            have hse := HSEG.out.trans (seg_step hkl)
            rw [hst, if_neg (by simp)] at hse
            have hL := look_err HSP.out HDR.out hse (by simp)
            refine bodyPost_ret (results_tmp4 rfl _ _ _) rfl ?_
            exact look_post_err (w.heap.size + 1) hL (FX HFw.out) (by simp)
          | some s0 =>
            obtain ⟨p, r, clk, v, xs, es⟩ := s0
            have hc1 : wr.cell? ⟨wo.heap.size + 1, k, none⟩ = some (.pointer (some ⟨p, 0, none⟩)) := by rw [hSc]; simp [hso, ptrOf]
            have hsk : StR wr ⟨p, r, clk, v, xs, es⟩ := HSS.out.st k _ hso
            obtain ⟨SA, sc, hv0, hrd⟩ := hsk.row.slice
            simp only at hv0
            subst hv0
            have HSK := AsM hsk
            have HI : Aside0 (Inn (wo.alloc (.cells #[.int .i64 day, .slice (some ad2) code.length c1] 54)) (wr.alloc (.cells #[.int .i64 op, .int .i64 a, .int .i64 b] 113)) (w.heap.size + 1) (wo.heap.size + 1) (wo.heap.size + 1) wr.heap.size l (fun i => if i < wr.heap.size then own i else l.length) (acc1.cells hv) wr.heap.size #[.int .i64 op, .int .i64 a, .int .i64 b]) :=
              ⟨⟨HFi.out.alloc _, blk_alloc HFB2.out _, (HSS.out.own (fun i hi => if_pos hi)).fr ((Fr.refl _ _).alloc _), blk_newN rfl, fun i hi => by rw [if_pos (by omega), HOW.out i hi, HLL.out], fun i hi => if_neg (by omega), by simp; omega, Nat.le_refl _, by simp, by omega⟩⟩
            clear hSc hso hrd hsk
            have hHNE : Aside0 (∀ i, hv1.ownBlock = some i → i ≠ wo.heap.size + 1 ∧ i < wr.heap.size ∧ own i = l.length ∧ wo.heap.size + 1 ≤ i) := ⟨fun i hi => ⟨by have := (HHO.out i hi).2; omega, own_lt HHS.out i hi, by rw [HLL.out]; exact (HHO.out i hi).1, by have := (HHO.out i hi).2; omega⟩⟩
            go_wp2_with (first | (go_at_call 134; (refine (height_fr p _ _ _ _ HSK.out.blk FQ).mono ?_); rintro e w' ⟨rfl, ⟨nd2, rfl⟩⟩) | (at_builtin; (refine app1 23 3 8 (.int .i64 0) (.tmp 53) (.tmp 58) rfl rfl Tryz.underlying23 info3 rfl hv1 m1 vals1 ⟨wr.heap.size + 1, 0, none⟩ (.int .i64 xs.length) rfl rfl (own_fr HHS.out (L := []) FQ (fun _ _ => List.not_mem_nil)) (by exact blk_cell (blk_newN (by simp)) 0) rfl (by have := HM1.out; omega) (by omega) ?_); intro hv2 W1 hO1 hg1 hat1; have HO1 := AsM hO1; have HAT1 := AsM hat1; have HG1 := AsM (Fr.grown (Fr.refl _ hv1.ownBlock.toList) hg1 (fun k hk => .inl (by simp [hk]))); clear hO1 hg1 hat1))
            have HI1 : Aside0 (Inn (wo.alloc (.cells #[.int .i64 day, .slice (some ad2) code.length c1] 54)) W1 (w.heap.size + 1) (wo.heap.size + 1) (wo.heap.size + 1) wr.heap.size l (fun i => if i < wr.heap.size then own i else l.length) (acc1.cells hv) wr.heap.size #[.int .i64 op, .int .i64 a, .int .i64 b]) :=
              ⟨(HI.out.new FQ).write HG1.out (fun i hi => by
                have hi' : hv1.ownBlock = some i := by simpa using hi
                obtain ⟨h1, h2, h3, h4⟩ := hHNE.out i hi'
                exact ⟨by rw [if_pos h2]; exact h3, h4, h1, by omega⟩)⟩
            have hsk1 : StR W1 ⟨p, r, clk, .slice SA xs.length sc, xs, es⟩ := HI1.out.sts.st k _ HSO.out
            have y0 := blk_cell HI1.out.xbk 0
            have y1 := blk_cell HI1.out.xbk 1
            have y2 := blk_cell HI1.out.xbk 2
            have HSK1 := AsM hsk1
            have hxl : xs.length ≤ 1000000 := by
              have := HXL.out (xs, look es) (by unfold absL; exact List.mem_map.2 ⟨_, List.mem_of_getElem? HSO.out, rfl⟩)
              simp only at this
              omega
            clear hsk1 r0 r1 r2
            go_region_held3 (fun w' => w'.cell? ⟨wr.heap.size, 0, none⟩ = some (.int .i64 op) ∧ w'.cell? ⟨wr.heap.size, 1, none⟩ = some (.int .i64 a) ∧ w'.cell? ⟨wr.heap.size, 2, none⟩ = some (.int .i64 b)) (first | exact ⟨y0, y1, y2⟩ | exact ⟨z0, z1, z2⟩ | go_keep) (first | (go_simp; go_at_call 134; (refine (height_fr p _ _ _ _ HSK1.out.blk FQ).mono ?_); rintro e w' ⟨rfl, ⟨nd3, rfl⟩⟩) | (go_simp; go_at_call 135; (refine (note_calls (w.heap.size + 1) acc1.stack acc1.fuel acc1.back acc1.slots acc1.cell op a b xs.length hv _ (by exact HI1.out.fbk)).mono ?_); rintro e W2 ⟨rfl, hF2, hb2⟩; have HI2 := AsM (Inn.noted (HI1.out.new FQ) hF2 hb2); have HN2 : Aside0 (Fr W1 W2 [w.heap.size + 1]) := ⟨Fr.trans (M := [w.heap.size + 1]) (Fr.mono (L := []) FQ (by simp)) hF2 (by simp)⟩; have z0 := blk_cell HI2.out.xbk 0; have z1 := blk_cell HI2.out.xbk 1; have z2 := blk_cell HI2.out.xbk 2; clear hF2 hb2))
            have HSK2 : Aside0 (StR W2 ⟨p, r, clk, .slice SA xs.length sc, xs, es⟩) := ⟨HI2.out.sts.st k _ HSO.out⟩
            have hsg2 := blk_cell ((HI2.out.fr).blk (g := wo.heap.size) (blk_newN rfl) (by simp; omega)) 0
            have hW2 := HI2.out.fr.size
            have hT3 := HG.out.lt
            clear y0 y1 y2
            go_wp2_with (first | (go_at_call 136; (refine (twin_calls p r clk _ xs es _ HSK2.out (by omega)).mono ?_); rintro e W3 ⟨q, v3, r3, es3, clk3, rfl, hF3, hS3, hlk3, hq3, hr3, hv3⟩; have HI3 := AsM (HI2.out.new hF3); have HF3 := AsM hF3; have HS3 := AsM hS3; have HLK3 := AsM hlk3; have HV3 := AsM hv3; have x0 := blk_cell HI3.out.xbk 0; have x1 := blk_cell HI3.out.xbk 1; have x2 := blk_cell HI3.out.xbk 2; have hsg3 := blk_cell ((HI3.out.fr).blk (g := wo.heap.size) (blk_newN rfl) (by simp; omega)) 0; have HGE := AsM (show ∀ b ∈ q :: r3 :: v3.ownBlock.toList, W2.heap.size ≤ b by (intro b9 hb9; simp only [List.mem_cons, Option.mem_toList] at hb9; rcases hb9 with h | h | h; (exact h ▸ hq3); (exact h ▸ hr3); (exact hv3 b9 h))); have HBIG := AsM (show ∀ b ∈ q :: r3 :: v3.ownBlock.toList, 3 < b by
                    intro b9 hb9
                    have hsz : w.heap.size ≤ W2.heap.size := by have h9 := HI2.out.fr.size; simp at h9; omega
                    simp only [List.mem_cons, Option.mem_toList] at hb9
                    rcases hb9 with h | h | h
                    · omega
                    · omega
                    · have := hv3 b9 h; omega); clear hF3 hS3 hlk3 hv3) | (go_at_call 137; (refine (apply_calls op a b day ⟨HXO.out.1, HXO.out.2.1⟩ q r3 clk3 v3 xs es3 _ HS3.out (by omega) (HG.out.fr0 ((HF.out.alloc _).trans HI3.out.fr (by simp))) HBIG.out).mono ?_); rintro e W4 ⟨rfl, hF4, hP4⟩; have HF4 := AsM hF4; have HP4 := AsM hP4; have HI4 := AsM (HI3.out.write hF4 (fun i hi => by
                    have h1 := HGE.out i hi
                    have h2 := blk_lt HI2.out.xbk
                    have h3 := blk_lt HI2.out.sts.blk
                    exact ⟨if_neg (by omega), by omega, by omega, by omega⟩)); have hsg4 := blk_cell ((HI4.out.fr).blk (g := wo.heap.size) (blk_newN rfl) (by simp; omega)) 1; clear hF4 hP4) | (go_at_call 139; (refine (places_calls (some ad2) c1 code k hkl _ (Kd.C_below HC1.out ((HF.out.alloc _).trans HI4.out.fr (by simp)).below) hcap1 hn1 ⟨op, a, b⟩ HX.out HXO.out.2.2.1 HXO.out.2.2.2).mono ?_); rintro e W5 ⟨vt, rfl, hF5, hI5, hg5⟩; have HI5 := AsM (HI4.out.new hF5); have HF5 := AsM hF5; have HT5 := AsM hI5; have HG5 := AsM hg5; clear hF5 hI5 hg5))
            · have hq9 : (applyE (look wantsEs op) (kT op) op a b day xs (look es3) == 0) = true := by assumption
              have ho1 : 0 ≤ op := HXO.out.1
              have ho2 : op < 29 := HXO.out.2.1
              have he : applyE (look wantsEs op) (kT op) op a b day xs (look es3) = 0 := by simpa using hq9
              obtain ⟨v4, es4, clk4, hS4, hK4, ho4⟩ := HP4.out he
              obtain ⟨A5, hv5, _⟩ := HT5.out.slice
              subst hv5
              have hq2 := blk_lt HI2.out.xbk
              have hSl2 := blk_lt HI2.out.sts.blk
              have hb4 : StR W5 ⟨q, r3, clk4, v4, applyX (kT op) (kP op) op a xs (look es3), es4⟩ := hS4.new HF5.out
              have hkp : kP op ≤ 1 := by
                have h9 := kTP op.toNat (by omega)
                rw [show ((op.toNat : Nat) : Int) = op by omega] at h9
                exact h9.2.2.2
              have hlab : SR.lab (fun i => if i < wr.heap.size then own i else l.length) ⟨q, r3, clk4, v4, applyX (kT op) (kP op) op a xs (look es3), es4⟩ l.length := by
                refine ⟨if_neg (show ¬ q < wr.heap.size by have := HGE.out q (by simp); omega), if_neg (show ¬ r3 < wr.heap.size by have := HGE.out r3 (by simp); omega), fun i hi => if_neg ?_⟩
                rcases ho4 with h | ⟨g, h, hg⟩
                · have := HGE.out i (by simp only [List.mem_cons, Option.mem_toList]; exact .inr (.inr (h.symm.trans hi))); omega
                · have := HI3.out.fr.size
                  have h8 : g = i := by have := h.symm.trans hi; simpa using this
                  have h7 := blk_lt HI3.out.xbk
                  omega
              have hcall := hand_calls (wo.heap.size + 1) code.length l (fun i => if i < wr.heap.size then own i else l.length) (wo.heap.size + 1) ⟨q, r3, clk4, v4, applyX (kT op) (kP op) op a xs (look es3), es4⟩ A5 (placesL ⟨op, a, b⟩ k) W5 HI5.out.sts hb4 hlab HT5.out (placesL_ok HXO.out.2.2.1).2 (placesL_ok HXO.out.2.2.1).1 (fun x hx => by have := HXL.out x hx; omega) (by have := applyX_len (t := kT op) (op := op) (A := a) (xs := xs) (s := look es3) hkp; show (applyX (kT op) (kP op) op a xs (look es3)).length ≤ _; omega) (by rw [HLL.out]; exact Nat.le_refl _) (fun g hg => by
                have h1 := HG5.out g (by rw [hg]; rfl)
                have h2 := blk_lt HI4.out.xbk
                have h3 := blk_lt HI4.out.sts.blk
                exact ⟨by rw [if_neg (by omega)]; exact Nat.le_refl _, by omega⟩)
              rw [HLL.out] at hcall
              refine hcall.mono ?_
              have HES : Aside0 (look es3 = look es) := ⟨funext HLK3.out⟩
              have HE0 := AsM he
              have HSTEP := AsM (lookStep_eq (code := code) (day := day) (k := k) (l := absL l) (acc := acc1) (xs := xs) (s := look es) (x := ⟨op, a, b⟩) (by rw [absL_get, HSO.out]; rfl) HX.out)
              have HFW5 := AsM ((HF.out.alloc (.cells #[.int .i64 day, .slice (some ad2) code.length c1] 54)).trans HI5.out.fr (by simp))
              have HABS : Aside0 ((SR.mk q r3 clk4 v4 (applyX (kT op) (kP op) op a xs (look es3)) es4).abs = (applyX (kT op) (kP op) op a xs (look es), applyK (kT op) op a xs (look es))) := ⟨by
                unfold SR.abs
                simp only [Prod.mk.injEq]
                exact ⟨by rw [HES.out], funext (fun kk => by rw [hK4 kk, HES.out])⟩⟩
              rw [HABS.out]
              have HOL : Aside0 ((applyX (kT op) (kP op) op a xs (look es)).length ≤ xs.length + 1) := ⟨applyX_len hkp⟩
              clear hS4 hK4 ho4 hb4 hlab hcall he hq9
              rintro e W6 (⟨⟨t, ht, hge⟩, rfl, hw⟩ | ⟨hlt9, rfl, hFP, hok⟩)
              · obtain rfl : W5 = W6 := hw.symm
                have hany : (placesL ⟨op, a, b⟩ k).any (fun t => decide ((code.length : Int) ≤ t)) = true := List.any_eq_true.2 ⟨t, ht, by simpa using hge⟩
                have hst := HSTEP.out
                rw [if_neg (by rw [← HES.out]; simpa using HE0.out), hany, if_pos rfl] at hst
                have hse := HSEG.out.trans (seg_step hkl)
                rw [hst, if_neg (by simp)] at hse
                have hL := look_err HSP.out HDR.out hse (by simp)
                have HL := AsM hL
                clear hL hse hst hany
                go_wp2
                (try rw [Exit.noGoto_ret])
                have hL := HL.out
                refine bodyPost_ret (results_tmp4 rfl _ _ _) rfl ?_
                exact look_post_err (w.heap.size + 1) hL (HFW5.out) (by simp)
              · obtain ⟨E2, hE2⟩ : ∃ E2, (handAll (applyX (kT op) (kP op) op a xs (look es), applyK (kT op) op a xs (look es)) (absL l) (placesL ⟨op, a, b⟩ k)).1 = E2 := ⟨_, rfl⟩
                rw [hE2] at hok ⊢
                have HE2 := AsM hE2
                have HFP := AsM hFP
                have hPge : ∀ i, (i = wo.heap.size + 1 ∨ (if i < wr.heap.size then own i else code.length) < code.length) → wo.heap.size + 1 ≤ i := by
                  intro i hi
                  rcases Nat.lt_or_ge i (wo.heap.size + 1) with h9 | h9
                  · exfalso
                    have h8 := HOW.out i h9
                    rcases hi with h | h
                    · omega
                    · split at h <;> omega
                  · exact h9
                have HPGE := AsM hPge
                have hany : (placesL ⟨op, a, b⟩ k).any (fun t => decide ((code.length : Int) ≤ t)) = false := by
                  rw [List.any_eq_false]
                  intro t ht
                  have := hlt9 t ht
                  simp; omega
                have hst := HSTEP.out
                rw [if_neg (by rw [← HES.out]; simpa using HE0.out), hany, if_neg (by simp)] at hst
                have HST := AsM hst
                clear hst hany hPge hFP hE2 hlt9
                by_cases hz : E2 = 0
                · subst hz
                  obtain ⟨l', own', hS6, hl6, ha6, ho6⟩ := hok rfl
                  have hz1 : ((0 : Int) == 0) = true := rfl
                  have hkl6 : k < l'.length := by have := HLL.out; omega
                  have hc6 : W6.cell? ⟨wo.heap.size + 1, k, none⟩ = some (ptrOf l'[k]) := by rw [blk_cell hS6.blk k]; simp [hkl6]
                  have hz6 := blk_frozen hS6.blk k
                  have hl6b := blk_lt hS6.blk
                  obtain ⟨pt, hpt⟩ : ∃ pt, ptrOf l'[k] = pt := ⟨_, rfl⟩
                  rw [hpt] at hc6
                  have HS6 := AsM hS6
                  have HL6 := AsM hl6
                  have HA6 := AsM ha6
                  have HO6 := AsM ho6
                  have H2N : Aside0 (∀ i, hv2.ownBlock = some i → wo.heap.size + 1 < i ∧ (if i < wr.heap.size then own i else code.length) = code.length ∧ i < W1.heap.size) := ⟨fun i hi => by
                    refine ⟨?_, ?_, own_lt HO1.out i hi⟩
                    · rcases HAT1.out with h | h
                      · exact (HHO.out i (h.symm.trans hi)).2
                      · have h8 := h.symm.trans hi; simp at h8; omega
                    · rcases HAT1.out with h | h
                      · have h8 := HHO.out i (h.symm.trans hi); split; exact h8.1; rfl
                      · have h8 := h.symm.trans hi; simp at h8; exact if_neg (by omega)⟩
                  have HO6b : Aside0 (W6.ownsRow 0 3 1 hv2 (m1 + 1) (vals1 ++ [.int .i64 xs.length])) := ⟨by
                    have g2 := own_fr HO1.out (HN2.out) (fun i hi => by have := H2N.out i hi; simp; omega)
                    have g4 := own_fr (own_fr g2 HF3.out (by simp)) HF4.out (fun i hi hm => by have h1 := HGE.out i hm; have h2 := H2N.out i hi; have h3 := HN2.out.size; omega)
                    exact own_frP (own_fr g4 HF5.out (by simp)) HFP.out (fun i hi hp => by have h2 := H2N.out i hi; rcases hp with h | h <;> omega)⟩
                  clear hS6 hl6 ha6 ho6 hpt hok
                  go_wp2
                  go_roundg (code.length - (k + 1))
                  case measure => have := HM2.out; omega
                  case rel =>
                    have hset := Fr.set W6 ⟨wo.heap.size + 1, k, none⟩ (.pointer none)
                    have hst := HST.out
                    rw [HE2.out, if_neg (by simp)] at hst
                    have hse := HSEG.out.trans (seg_step hkl)
                    rw [hst, if_pos rfl] at hse
                    have hW5s : wo.heap.size + 1 < W5.heap.size := blk_lt HI5.out.sts.blk
                    have hW15 : W1.heap.size ≤ W5.heap.size := Nat.le_trans HN2.out.size (Nat.le_trans HF3.out.size (Nat.le_trans HF4.out.size HF5.out.size))
                    refine ⟨k + 1, l'.set k none, own', m1 + 1, vals1 ++ [.int .i64 xs.length], acc1.note ⟨op, a, b⟩ xs.length, hv2, rfl, rfl, rfl, rfl, by go_num, by omega, ⟨Nat.le_refl _⟩, ⟨?_⟩, ⟨?_⟩, ⟨HS6.out.drop hkl6⟩, ⟨by rw [List.length_set, HL6.out]⟩, ⟨?_⟩, ⟨?_⟩, ⟨by have := HM1.out; omega⟩, ⟨?_⟩, ⟨?_⟩, ⟨?_⟩⟩
                    · exact (HI5.out.fr.thenP' HFP.out (fun i hi => by have := HPGE.out i hi; simp; omega)).setCell _ _ (.inr (by simp))
                    · exact at_far (HFP.out.blk HI5.out.fbk (fun h9 => by have := HPGE.out _ h9; omega)) (by simp; omega) _
                    · intro i hi
                      rw [HO6.out i (by omega), if_pos (by omega)]
                      exact HOW.out i hi
                    · exact own_fr HO6b.out hset (fun i hi => by have := H2N.out i hi; simp; omega)
                    · intro g hg
                      have h2 := H2N.out g hg
                      exact ⟨by rw [HO6.out g (by omega)]; exact h2.2.1, h2.1⟩
                    · intro x9 hx9
                      rw [absL_set] at hx9
                      rcases List.mem_or_eq_of_mem_set hx9 with h9 | h9
                      · rw [HA6.out] at h9
                        have hxk : xs.length ≤ k := HXL.out (xs, look es) (by unfold absL; exact List.mem_map.2 ⟨_, List.mem_of_getElem? HSO.out, rfl⟩)
                        exact handAll_len (M := k + 1) (b := (applyX (kT op) (kP op) op a xs (look es), applyK (kT op) op a xs (look es))) (by have := HOL.out; show (applyX (kT op) (kP op) op a xs (look es)).length ≤ k + 1; omega) _ (fun y hy => by have := HXL.out y hy; omega) x9 h9
                      · cases h9
                    · rw [absL_set, HA6.out]; exact hse
                · have hst := HST.out
                  have hzz : (handAll (applyX (kT op) (kP op) op a xs (look es), applyK (kT op) op a xs (look es)) (absL l) (placesL ⟨op, a, b⟩ k)).1 ≠ 0 := by rw [HE2.out]; exact hz
                  rw [if_pos hzz, HE2.out] at hst
                  have hse := HSEG.out.trans (seg_step hkl)
                  rw [hst, if_neg (by simpa using hz)] at hse
                  have HL := AsM (look_err HSP.out HDR.out hse (by simpa using hz))
                  have hz1 : (E2 == 0) = false := by simpa using hz
                  have hz2 : (E2 != 0) = true := by simpa using hz
                  have HZ := AsM hz
                  clear hse hst hzz hok hz
                  go_wp2
                  (try rw [Exit.noGoto_ret])
                  have hL := HL.out
                  refine bodyPost_ret (results_tmp4 rfl _ _ _) rfl ?_
                  exact look_post_err (w.heap.size + 1) hL (HFW5.out.thenP HFP.out (fun i hi => by have := HPGE.out i hi; omega)) (by simpa using HZ.out)
            · have hq9 : (applyE (look wantsEs op) (kT op) op a b day xs (look es3) != 0) = true := by assumption
              have hnz : applyE (look wantsEs op) (kT op) op a b day xs (look es3) ≠ 0 := by simpa using hq9
              (try rw [Exit.noGoto_ret])
              have hes : look es3 = look es := funext HLK3.out
              have hst := lookStep_eq (code := code) (day := day) (k := k) (l := absL l) (acc := acc1) (xs := xs) (s := look es) (x := ⟨op, a, b⟩) (by rw [absL_get, HSO.out]; rfl) HX.out
              rw [hes] at hnz
              rw [if_pos hnz] at hst
              have hse := HSEG.out.trans (seg_step hkl)
              rw [hst, if_neg (by simpa using hnz)] at hse
              have hL := look_err HSP.out HDR.out hse (by simpa using hnz)
              rw [hes]
              refine bodyPost_ret (results_tmp4 rfl _ _ _) rfl ?_
              exact look_post_err (w.heap.size + 1) hL ((HF.out.alloc (.cells #[.int .i64 day, .slice (some ad2) code.length c1] 54)).trans HI4.out.fr (by simp)) (by simpa using hnz)
        · obtain rfl : k = code.length := by omega
          have n2 : decide (code.length < code.length) = false := by simp
          obtain ⟨HA1, hm1, hcp1, hvs⟩ := own_isSlice HHS.out
          subst hvs
          have hf3 : wr.cell? ⟨w.heap.size + 1, 3, none⟩ = some hv := blk_cell HFB2.out 3
          have hff := blk_lt HFB2.out
          have hhv : wr.ownsRow 0 23 1 hv m vals := own_fr (own_fr HHV.out ((Fr.refl wo []).alloc _) (by simp)) HFi.out (fun i hi => by
            intro hm9
            simp at hm9
            subst hm9
            obtain ⟨cells, hc9⟩ := own_typed HHV.out _ hi
            rw [HFB.out] at hc9
            simp at hc9)
          have HHV2 := AsM hhv
          have HNF : Aside0 (w.heap.size + 1 ∉ hv.ownBlock.toList) := ⟨by
            intro hm9
            obtain ⟨cells, hc9⟩ := own_typed HHV.out _ (by simpa using hm9)
            rw [HFB.out] at hc9
            simp at hc9⟩
          clear hhv g0 g1
          go_wp2_with (first | (at_builtin; (refine app1 139 23 24 (.slice none 0 0) (.tmp 95) (.tmp 97) rfl rfl Tryz.underlying139 infoL rfl hv m vals ⟨wr.heap.size, 0, none⟩ (.slice HA1 hm1 hcp1) rfl rfl (own_fr HHV2.out (L := []) FQ (fun _ _ => List.not_mem_nil)) (by exact blk_cell (blk_newN rfl) 0) rfl (by have := HMD.out; omega) (by omega) ?_); intro hv3 W7 hO7 hg7 hat7; obtain ⟨A7, m7, c7, hv7⟩ := own_isSlice hO7; subst hv7; have HAT7 := AsM hat7; have HO7 := AsM hO7; have HG7 := AsM (Fr.grown (Fr.refl _ hv.ownBlock.toList) hg7 (fun k hk => .inl (by simp [hk]))); have HFB7 := AsM (HG7.out.blk (blk_alloc HFB2.out _) HNF.out); have hf7 : W7.cell? ⟨w.heap.size + 1, 3, none⟩ = some hv := blk_cell HFB7.out 3; have hz7 := blk_frozen HFB7.out 3; clear hO7 hg7 hat7))
          go_roundg (days.length - (d + 1))
          case measure => have := HM.out; omega
          case rel =>
            have hseg := HSEG.out
            rw [Nat.sub_self] at hseg
            refine ⟨d + 1, acc1, .slice A7 m7 c7, m + 1, vals ++ [.slice HA1 hm1 hcp1], rfl, rfl, rfl, by go_num, by omega, ⟨Nat.le_refl _⟩, ⟨?_⟩, ⟨blk_to (blk_set HFB7.out 3 _) rfl⟩, ⟨own_fr HO7.out (Fr.set W7 ⟨w.heap.size + 1, 3, none⟩ (.slice A7 m7 c7)) (fun i hi => ?_)⟩, ⟨by have := HMD.out; omega⟩, ⟨fun i hi => ?_⟩, ⟨look_on HSP.out HDR.out hseg⟩⟩
            · have h1 : Fr w (wr.alloc (.cells #[.slice HA1 hm1 hcp1] 23)) [] := HFw.out.alloc _
              exact (h1.trans HG7.out (fun i hi => .inr (by
                exact HVG.out i (by simpa using hi)))).setCell _ _ (.inr (by simp))
            · intro hm9
              simp at hm9
              subst hm9
              obtain ⟨cells, hc9⟩ := own_typed HO7.out _ hi
              rw [HFB7.out] at hc9
              simp at hc9
            · rcases HAT7.out with h | h
              · exact HVG.out i (h.symm.trans hi)
              · have h8 := h.symm.trans hi; simp at h8; have := HFw.out.size; omega
    · obtain rfl : d = days.length := by omega
      have n1 : decide (days.length < days.length) = false := by simp
      have hL := HSP.out
      rw [List.drop_length] at hL
      have HL : Aside0 (lookDays days 0 acc0 = ((0, 0, 0), acc)) := ⟨hL⟩
      clear hL
      go_wp2
      (try rw [Exit.noGoto_ret])
      refine bodyPost_ret (results_tmp4 rfl _ _ _) rfl ?_
      exact look_post_ok (w.heap.size + 1) hv HL.out HF.out HFB.out (by omega)
end Go.Proofs.YtpoehkacfmljcaaGreatDoor.H
