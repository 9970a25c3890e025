/- The reference's States. Printed by mkRG.py. -/
import Derived.Test.YtpoehkacfmljcaaGreatDoorZV
import Derived.Test.YtpoehkacfmljcaaGreatDoorZRF
set_option maxHeartbeats 4000000
set_option maxRecDepth 100000
namespace Go.Proofs.YtpoehkacfmljcaaGreatDoor.H
open Go.RowKit Go.Proofs.YtpoehkacfmljcaaGreatDoorW.PrintWords Go.Proofs.YtpoehkacfmljcaaGreatDoorW.PrintLast Go.Proofs.YtpoehkacfmljcaaGreatDoorW.PrintMore
open Go.ChangeMaps (setBlock)
attribute [local go_sem] max2_int min2_int max_two min_two max_three min_three max_four min_four
set_option linter.unusedVariables false
set_option linter.unusedSimpArgs false
open Go.Proofs.YtpoehkacfmljcaaGreatDoor.M
theorem Arr.get' {w : World} {S : Nat} {l : List RV} {ad : Addr} (h : Arr w S l) (had : ad = ⟨S, 0, none⟩) {j : Nat} {v : RV} (hj : l[j]? = some v) : w.cell? (ad.add (j * 3)) = some (.bool v.has) ∧ w.cell? ⟨(ad.add (j * 3)).block, (ad.add (j * 3)).off + 1, none⟩ = some (.slice v.A v.xs.length v.c) ∧ w.cell? ⟨(ad.add (j * 3)).block, (ad.add (j * 3)).off + 2, none⟩ = some (.slice v.B v.sl.length v.d) := by
 subst had
 rw [add_ad]
 exact h.get hj
theorem hand_any {hasT : Bool} {xsT : List Int} {slT : List KS} {SA : Option Addr} {sc : Nat} {xs : List Int} {SB : Option Addr} {sl : List KS} {w : World} {e : Ending} {w' : World} (h : HandPost hasT xsT slT SA sc xs SB sl w e w') : ∃ uh UA un uc UB um ud er, e = .returned (.tuple #[.agg #[.bool uh, .slice UA un uc, .slice UB um ud], .int .i64 er]) ∧ Fr w w' [] ∧ ((er ≠ 0 ∧ er = handRE hasT xsT xs) ∨ (er = 0 ∧ handRE hasT xsT xs = 0 ∧ uh = true ∧ SA = UA ∧ xs.length = un ∧ sc = uc ∧ (handRS hasT slT sl).length = um ∧ Kd.C k236 w' UB (handRS hasT slT sl).length (handRS hasT slT sl) ∧ (UB = SB ∨ ∀ ad, UB = some ad → w.heap.size ≤ ad.block))) := by
 obtain ⟨hf, ⟨h1, b, A, n, c, B, m, d, he⟩ | ⟨h1, B, d, he, hC, hB⟩⟩ := h
 ·exact ⟨b, A, n, c, B, m, d, _, he, hf, .inl ⟨h1, rfl⟩⟩
 ·exact ⟨true, SA, _, sc, B, _, d, 0, he, hf, .inr ⟨rfl, h1, rfl, rfl, rfl, rfl, rfl, hC, hB⟩⟩
theorem not_state {W : World} {p : Addr} {x : Int} {D : Nat} {b : Bool} {A B : Option Addr} {n c m d : Nat} {t : TypeId} (h : W.cell? p = some (.int .i64 x)) (hD : W.heap[D]? = some (.cells #[.bool b, .slice A n c, .slice B m d] t (0, 0))) : p.block ≠ D := by
 rintro rfl
 simp only [World.cell?, hD] at h
 split at h
 ·cases h
 ·rcases p with ⟨bl, o, sp⟩
  simp only at h
  match o, h with
  | 0, h => simp at h
  | 1, h => simp at h
  | 2, h => simp at h
  | o + 3, h => simp at h
theorem add_block (ad : Addr) (t : Nat) : (ad.add t).block = ad.block := by simp only [Addr.add]; split <;> rfl
theorem ints_ne {W : World} {A : Option Addr} {n : Nat} {xs : List Int} {D : Nat} {b : Bool} {A' B' : Option Addr} {n' c' m' d' : Nat} {t : TypeId} (h : (Kd.int .i64).C W A n xs) (hD : W.heap[D]? = some (.cells #[.bool b, .slice A' n' c', .slice B' m' d'] t (0, 0))) (hn : 0 < n) : ∀ ad, A = some ad → ad.block ∉ [D] := by
 rintro ad rfl
 obtain ⟨ad', e, hc⟩ := iat_at h 0 hn
 injection e with e
 subst e
 have := not_state hc hD
 rw [add_block] at this
 simpa using this
theorem kepts_ne {W : World} {A : Option Addr} {n : Nat} {xs : List KS} {D : Nat} {b : Bool} {A' B' : Option Addr} {n' c' m' d' : Nat} {t : TypeId} (h : Kd.C k236 W A n xs) (hD : W.heap[D]? = some (.cells #[.bool b, .slice A' n' c', .slice B' m' d'] t (0, 0))) (hn : 0 < n) : ∀ ad, A = some ad → ad.block ∉ [D] := by
 rintro ad rfl
 obtain ⟨ad', e, hc, _⟩ := kept_at h 0 hn
 injection e with e
 subst e
 have := not_state hc hD
 rw [add_block] at this
 simpa using this
theorem C_frn {α : Type} {d : Kd α} {w w' : World} {A : Option Addr} {n : Nat} {xs : List α} {L : List Nat} (h : d.C w A n xs) (hf : Fr w w' L) (hA : 0 < n → ∀ ad, A = some ad → ad.block ∉ L) (hK : ∀ x c, d.K w x c → d.K w' x c) : d.C w' A n xs := by
 rcases Nat.eq_zero_or_pos n with h0 | h0
 ·subst h0
  exact ⟨h.1, h.2.1, fun hp => absurd hp (by omega)⟩
 ·exact C_fr h hf (hA h0) hK
def BehF (bx : List Int) (bs : List KS) (vB : Option Addr) (V : World) (s : Nat × Option Addr × Nat × Option Addr × Nat) (w' : World) : Prop :=
 Fr V.drew w' [] ∧ bx.length ≤ s.2.2.1 ∧ (Kd.int .i64).C w' s.2.1 bx.length bx ∧ Kd.C k236 w' s.2.2.2.1 bs.length bs ∧ (∀ ad, s.2.1 = some ad → V.heap.size ≤ ad.block) ∧ (s.2.2.2.1 = vB ∨ ∀ ad, s.2.2.2.1 = some ad → V.heap.size ≤ ad.block) ∧ w'.heap[s.1]? = some (.cells #[.bool false, .slice none 0 0, .slice none 0 0] 175 (0, 0)) ∧ V.heap.size ≤ s.1
def StatesPost (r : Int × List RS) (n : Nat) (w : World) (e : Ending) (w' : World) : Prop :=
 Fr w w' [] ∧ ((r.1 ≠ 0 ∧ ∃ k : Int, e = .returned (.tuple #[.slice none 0 0, .int .i64 k, .int .i64 r.1])) ∨ (r.1 = 0 ∧ ∃ ad S l, ad = (⟨S, 0, none⟩ : Addr) ∧ e = .returned (.tuple #[.slice (some ad) n n, .int .i64 0, .int .i64 0]) ∧ Arr w' S l ∧ l.map RV.rs = r.2))
theorem states_err {r : Int × List RS} {n : Nat} {w W : World} {k e : Int} (h : r.1 = e) (he : e ≠ 0) (hf : Fr w W []) : StatesPost r n w (.returned (.tuple #[.slice none 0 0, .int .i64 k, .int .i64 e])) W := by
 subst h
 exact ⟨hf, .inl ⟨he, k, rfl⟩⟩
structure StInv (w : World) (S k n : Nat) (so : Obj) (l : List RV) (wr : World) : Prop where
 fr : Fr w wr []
 seg : wr.heap[w.heap.size]? = some so
 arr : Arr wr S l
 len : l.length = n
 small : ∀ v ∈ l, v.xs.length ≤ k ∧ v.sl.length ≤ k
theorem wrong0 {has : Bool} {xs : List Int} {sl : List KS} {op A B day : Int} {k n : Nat} (h : wrongP has xs sl op A B day k n = 0) : has = true ∧ (takesL op).length ≤ xs.length ∧ ((op = 26 ∨ op = 27) → (k : Int) + 1 + A < n) := by
 unfold wrongP at h
 by_cases h1 : has = false
 ·rw [if_pos h1] at h; exact absurd h (by decide)
 rw [if_neg h1] at h
 by_cases h2 : xs.length < (takesL op).length ∨ (op = 0 ∧ 0 < xs.length)
 ·rw [if_pos h2] at h; exact absurd h (by decide)
 rw [if_neg h2] at h
 by_cases h3 : sortBad (takesL op) xs = true
 ·rw [if_pos h3] at h; exact absurd h (by decide)
 rw [if_neg h3] at h
 by_cases h4 : op = 7 ∧ slotL sl A = 0
 ·rw [if_pos h4] at h; exact absurd h (by decide)
 rw [if_neg h4] at h
 by_cases h5 : op = 3 ∧ day < B
 ·rw [if_pos h5] at h; exact absurd h (by decide)
 rw [if_neg h5] at h
 by_cases h6 : (op = 26 ∨ op = 27) ∧ (n : Int) ≤ k + 1 + A
 ·rw [if_pos h6] at h; exact absurd h (by decide)
 exact ⟨by cases has <;> simp_all, by omega, fun h7 => by
  have : ¬ (n : Int) ≤ k + 1 + A := fun h8 => h6 ⟨h7, h8⟩
  omega⟩
theorem handTo_at {b : RS} {l : List RV} {j : Nat} {u : RV} (hu : l[j]? = some u) : handTo b (l.map RV.rs) j = if handRE u.has u.xs b.2.1 ≠ 0 then (handRE u.has u.xs b.2.1, l.map RV.rs) else (0, (l.map RV.rs).set j (true, b.2.1, handRS u.has u.sl b.2.2)) := by
 have : (l.map RV.rs).getD j (false, [], []) = u.rs := by rw [List.getD_eq_getElem?_getD, List.getElem?_map, hu]; rfl
 unfold handTo
 rw [this]
 rfl
theorem behX_len (op : Int) (xs : List Int) (sl : List KS) (A : Int) : (behindX op xs sl A).length ≤ xs.length + 1 := by
 unfold behindX
 rw [List.length_append, List.length_take]
 have : (if op = 6 then [xs.getD (xs.length - (takesL op).length) 0] else if op = 7 then [slotL sl A] else if op = 2 ∨ op = 25 then [2] else if 0 < kP op then [if 19 ≤ op ∧ op ≤ 24 then 2 else 1] else ([] : List Int)).length ≤ 1   := by (repeat' split) <;> simp
 omega
theorem behS_len (op : Int) (xs : List Int) (sl : List KS) (A : Int) : (behindS op xs sl A).length ≤ sl.length + 1 := by
 unfold behindS
 split
 ·rw [List.length_append]
  have : (withoutL sl A).length ≤ sl.length := List.length_filter_le _ _
  simp; omega
 ·omega
theorem handRS_len (h : Bool) (slT sl : List KS) : (handRS h slT sl).length ≤ sl.length := by
 unfold handRS
 split
 ·omega
 ·exact List.length_filter_le _ _
def rvT : RV := ⟨true, none, 0, [], none, 0, []⟩
theorem arr0 {w : World} {S n : Nat} (h : Arr w S (List.replicate n rv0)) (hn : 0 < n) : Arr (w.setCell ⟨S, 0, none⟩ (.bool true)) S ((List.replicate n rv0).set 0 rvT) := by
 obtain ⟨m, rfl⟩ : ∃ m, n = m + 1 := ⟨n - 1, by omega⟩
 refine ⟨?_, fun v hv => ?_⟩
 ·rw [blk_set h.blk 0 (.bool true), List.setIfInBounds_toArray, List.replicate_succ]
  simp [RV.cells, rv0, rvT]
 ·rcases List.mem_or_eq_of_mem_set hv with h1 | rfl
  ·rw [List.eq_of_mem_replicate h1]; exact rv0_ok _ _
  ·exact ⟨⟨rfl, by decide, fun h => absurd h (by decide)⟩, Nat.le_refl _, ⟨rfl, by decide, fun h => absurd h (by decide)⟩, (fun ad h => by cases h), (fun ad h => by cases h)⟩
theorem handed {w W5 : World} {S j k n o : Nat} {l : List RV} {u b : RV} {UB : Option Addr} {ud : Nat} {so : Obj} (ho : j * 3 = o) (hi : StInv w S k n so l W5) (hu : l[j]? = some u) (hb : b.Ok W5 S) (hbl : b.xs.length ≤ k ∧ b.sl.length ≤ k) (hSw : w.heap.size < S) (hC : Kd.C k236 W5 UB (handRS u.has u.sl b.sl).length (handRS u.has u.sl b.sl)) (hB : ∀ ad, UB = some ad → ad.block ≠ S) :
  StInv w S k n so (l.set j ⟨true, b.A, b.c, b.xs, UB, ud, handRS u.has u.sl b.sl⟩) (((W5.setCell ⟨S, o, none⟩ (.bool true)).setCell ⟨S, o + 1, none⟩ (.slice b.A b.xs.length b.c)).setCell ⟨S, o + 2, none⟩ (.slice UB (handRS u.has u.sl b.sl).length ud)) := by
 subst ho
 have hj : j < l.length := (List.getElem?_eq_some_iff.1 hu).1
 refine ⟨((hi.fr.setCell _ _ (.inr (by simp; omega))).setCell _ _ (.inr (by simp; omega))).setCell _ _ (.inr (by simp; omega)), at_far (at_far (at_far hi.seg (by simp; omega) _) (by simp; omega) _) (by simp; omega) _, hi.arr.set j ⟨true, b.A, b.c, b.xs, UB, ud, handRS u.has u.sl b.sl⟩ hj ⟨hb.stk, hb.cap, hC, hb.a, hB⟩, by rw [List.length_set]; exact hi.len, fun v hv => ?_⟩
 rcases List.mem_or_eq_of_mem_set hv with h1 | rfl
 ·exact hi.small v h1
 ·exact ⟨hbl.1, Nat.le_trans (handRS_len _ _ _) hbl.2⟩
theorem Arr.geto {w : World} {S : Nat} {l : List RV} (h : Arr w S l) {j o : Nat} (ho : j * 3 = o) {v : RV} (hj : l[j]? = some v) : w.cell? ⟨S, o, none⟩ = some (.bool v.has) ∧ w.cell? ⟨S, o + 1, none⟩ = some (.slice v.A v.xs.length v.c) ∧ w.cell? ⟨S, o + 2, none⟩ = some (.slice v.B v.sl.length v.d) := ho ▸ h.get hj
theorem hand_at (VV : World) (S : Nat) (u b : RV) (hu : u.Ok VV S) (hb : b.Ok VV S) (hx : b.xs.length ≤ 1000000000) (hs : b.sl.length ≤ 100000000) : ∀ W, Fr VV W [] → Calls Tryz.prog 127 #[.agg #[.bool u.has, .slice u.A u.xs.length u.c, .slice u.B u.sl.length u.d], .agg #[.bool true, .slice b.A b.xs.length b.c, .slice b.B b.sl.length b.d]] W (HandPost u.has u.xs u.sl b.A b.c b.xs b.B b.sl W) := fun W hf =>
 rhand_calls u.has u.A u.c u.xs u.B u.d u.sl b.A b.c b.xs b.B b.d b.sl W hx hs (hu.fr hf).stk (hu.fr hf).slt (hb.fr hf).stk (hb.fr hf).slt
theorem states_calls (day : Int) (CA : Option Addr) (cc : Nat) (code : List S113) (w : World) (hC : Kd.C k113 w CA code.length code) (hn0 : 0 < code.length) (hn : code.length ≤ 1000000) (hok : ∀ x ∈ code, InstrOk x) (hend : ∀ x, code[code.length - 1]? = some x → x.f0 = 0) (G : TabW w) :
  Calls Tryz.prog 103 #[.agg #[.int .i64 day, .slice CA code.length cc]] w (StatesPost (refSeg code day code.length 0 (initR code.length)) code.length w) := by
 obtain ⟨R, hR⟩ : ∃ x, refSeg code day code.length 0 (initR code.length) = x := ⟨_, rfl⟩
 rw [hR]
 have HR0 := AsM hR
 have HC := AsM hC
 have HOK := AsM hok
 have HEND := AsM hend
 have HG0 := AsM G
 clear hC hok hend G hR
 have hup := Tryz.underlying175
 have hus := Tryz.underlying54
 have hui := Tryz.underlying113
 have hnn : code.length ≤ 1000000000 := by omega
 go_enter Tryz.func103, Tryz.ntmps103
 go_upto_region 3 with (first | (at_make; refine make3 (.tmp 15) (.tmp 15) rfl rfl code.length rfl rfl hnn ?_; intro w1 ad had hF1 hA1; have HAD := AsM had; have HF1 : Aside0 (Fr w w1 []) := ⟨Fr.trans (M := []) FQ hF1 (by simp)⟩; have HG1 := AsM (hF1.blk (g := w.heap.size) (blk_newN rfl) (by simp)); have HA1 := AsM hA1; clear had hF1 hA1))
 have hv0 : (List.replicate code.length rv0)[0]? = some rv0 := by rw [List.getElem?_replicate, if_pos hn0]
 have c0 : w1.cell? ad = some (.bool false) := by rw [HAD.out]; exact (HA1.out.get hv0).1
 have z0 : w1.frozen? ad = false := by rw [HAD.out]; exact blk_frozen HA1.out.blk 0
 obtain ⟨S, hS⟩ : ∃ S, (w.alloc (Obj.cells #[Value.int IntKind.i64 day, Value.slice CA code.length cc] 54)).heap.size = S := ⟨_, rfl⟩
 have hSw : w.heap.size < S := by rw [← hS]; simp
 rw [hS] at HA1 HAD
 clear hS
 go_upto_region 4 with fail
 refine name_ (fun V => Aside0 (StInv w S 0 code.length (.cells #[.int .i64 day, .slice CA code.length cc] 54 (0, 0)) ((List.replicate code.length rv0).set 0 rvT) V)) ⟨by
  have e := HAD.out
  subst e
  refine ⟨HF1.out.setCell _ _ (.inr (by simp; omega)), at_far HG1.out (by simp; omega) _, arr0 HA1.out hn0, by simp, fun v hv => ?_⟩
  rcases List.mem_or_eq_of_mem_set hv with h1 | rfl
  ·rw [List.eq_of_mem_replicate h1]; exact ⟨Nat.le_refl _, Nat.le_refl _⟩
  ·exact ⟨Nat.le_refl _, Nat.le_refl _⟩⟩ ?_
 clear c0 z0 hv0 HF1 HG1 HA1
 rintro V0 HI0
 have hmap : ((List.replicate code.length rv0).set 0 rvT).map RV.rs = initR code.length := by rw [List.map_set, List.map_replicate]; rfl
 obtain ⟨so, hso⟩ : ∃ so, Obj.cells #[Value.int IntKind.i64 day, Value.slice CA code.length cc] 54 (0, 0) = so := ⟨_, rfl⟩
 have HSO := AsM hso
 rw [hso] at HI0
 have HMAP := AsM hmap
 clear hso hmap
 go_wp2
 go_loopg [7, 8, 9, 10, 11] code.length (fun kq s7 s8 s9 s10 s11 wr => ∃ (k : Nat) (l : List RV), s7 = .int .i64 k ∧ k ≤ code.length ∧ Aside0 (code.length - k ≤ kq) ∧ Aside0 (StInv w S k code.length so l wr) ∧ Aside0 (refSeg code day (code.length - k) k (l.map RV.rs) = R))
 case atStart => exact ⟨0, _, rfl, Nat.zero_le _, ⟨Nat.le_refl _⟩, HI0, ⟨by rw [HMAP.out]; exact HR0.out⟩⟩
 case round =>
  clear HI0 HMAP HR0
  obtain ⟨k, l, rfl, hk, HM, HI, HR⟩ := hrel
  by_cases hkl : k < code.length
  case neg =>
   obtain rfl : k = code.length := by omega
   have n3 : decide (code.length < code.length) = false := by simp
   have hr := HR.out
   rw [Nat.sub_self] at hr
   have HR2 := AsM hr
   clear hr
   go_wp2
   go_ret3
   exact ⟨HI.out.fr, .inr ⟨by rw [← HR2.out]; rfl, ad, S, l, HAD.out, rfl, HI.out.arr, by rw [← HR2.out]; rfl⟩⟩
  case pos =>
  have n3 : decide (k < code.length) = true := by simpa using hkl
  obtain ⟨cad, rfl, i0, i1, i2⟩ := instr_at (Kd.C_below HC.out HI.out.fr.below) k hkl
  obtain ⟨x, hx⟩ : ∃ x, code.getD k z113 = x := ⟨_, rfl⟩
  rw [hx] at i0 i1 i2
  have hxm : code[k]? = some x := by rw [List.getD_eq_getElem?_getD, List.getElem?_eq_getElem hkl] at hx; rw [List.getElem?_eq_getElem hkl]; simpa using hx
  obtain ⟨o0, o1, o2, o3⟩ := HOK.out x (List.mem_of_getElem? hxm)
  have HXM := AsM (And.intro hx hxm)
  clear hx hxm
  obtain ⟨v, hvl⟩ : ∃ v, l[k]? = some v := ⟨_, List.getElem?_eq_getElem (by have := HI.out.len; omega)⟩
  have HV := AsM hvl
  have hvs := HI.out.small v (List.mem_of_getElem? hvl)
  have HVO := AsM (HI.out.arr.ok v (List.mem_of_getElem? hvl))
  have g1 := blk_cell (HSO.out ▸ HI.out.seg) 1
  have hgl := blk_lt HI.out.seg
  obtain ⟨hvs1, hvs2⟩ := hvs
  clear hvl
  go_upto_region 8 with fail
  refine name_ (fun V => Aside0 (Fr w V []) ∧ Aside0 (V.heap[w.heap.size]? = some (.cells #[.int .i64 day, .slice (some cad) code.length cc] 54 (0, 0))) ∧ Aside0 (V.heap[wr.heap.size]? = some (.cells #[.int .i64 x.f0, .int .i64 x.f1, .int .i64 x.f2] 113 (0, 0))) ∧ Aside0 (Arr V S l)) ⟨⟨by (with_reducible (repeat (first | exact Fr.refl _ _ | refine Fr.drew ?_ | refine Fr.drewN ?_ _ | refine Fr.alloc ?_ _ | refine Fr.setCell ?_ _ _ ?_))); exact HI.out.fr⟩, ⟨by (with_reducible (repeat (first | apply blk_drew | apply blk_alloc | apply blk_set))); exact HSO.out ▸ HI.out.seg⟩, ⟨blk_newN rfl⟩, ⟨HI.out.arr.fr FQ⟩⟩ ?_
  have hSl : S < wr.heap.size := blk_lt HI.out.arr.blk
  have HLEN := AsM HI.out.len
  have HSMALL := AsM HI.out.small
  obtain ⟨I, hI⟩ : ∃ I, wr.heap.size = I := ⟨_, rfl⟩
  rw [hI] at hSl ⊢
  clear i0 i1 i2 g1 hgl hI HI
  rintro V1 ⟨HF1, HG1, HI1, HA1⟩
  have HVO1 := AsM (HA1.out.ok v (List.mem_of_getElem? HV.out))
  clear HVO
  obtain ⟨we, hwe⟩ : ∃ y, wrongP v.has v.xs v.sl x.f0 x.f1 x.f2 day k code.length = y := ⟨_, rfl⟩
  have HWR : Aside0 (∀ W, Fr V1 W [] → Calls Tryz.prog 125 #[.agg #[.bool v.has, .slice v.A v.xs.length v.c, .slice v.B v.sl.length v.d], .agg #[.int .i64 x.f0, .int .i64 x.f1, .int .i64 x.f2], .int .i64 day, .int .i64 k, .int .i64 code.length] W (SvPost we W)) := ⟨fun W hf => hwe ▸ wrong_calls v.has v.A v.c v.xs v.B v.d v.sl x.f0 x.f1 x.f2 day k code.length W o0 o1 o2 o3 (by omega) (by omega) (HVO1.out.fr hf).stk (HVO1.out.fr hf).slt (HG0.out.fr0 (HF1.out.trans hf (by simp)))⟩
  have hgv : (l.map RV.rs).getD k (false, [], []) = v.rs := by rw [List.getD_eq_getElem?_getD, List.getElem?_map, HV.out]; rfl
  obtain ⟨bx, hbx⟩ : ∃ y, behindX x.f0 v.xs v.sl x.f1 = y := ⟨_, rfl⟩
  obtain ⟨bs, hbs⟩ : ∃ y, behindS x.f0 v.xs v.sl x.f1 = y := ⟨_, rfl⟩
  have hst : refStep code day k (l.map RV.rs) = if we ≠ 0 then (we, l.map RV.rs) else hand2 x k (true, bx, bs) (hand1 x k (true, bx, bs) (l.map RV.rs)) := by
   unfold refStep
   simp only [hgv, HXM.out.1]
   rw [show wrongP v.rs.1 v.rs.2.1 v.rs.2.2 x.f0 x.f1 x.f2 day k code.length = we from hwe]
   rw [show afterR x v.rs = (true, bx, bs) by unfold afterR; rw [show behindX x.f0 v.rs.2.1 v.rs.2.2 x.f1 = bx from hbx, show behindS x.f0 v.rs.2.1 v.rs.2.2 x.f1 = bs from hbs]]
  have hr1 := HR.out
  rw [rseg_step hkl, hst] at hr1
  have HR1 := AsM hr1
  have HWE := AsM hwe
  have HBX := AsM (And.intro hbx hbs)
  clear hr1 hwe hgv hst hbx hbs HR
  refine start_ (n := 11) (S := fun w' => w'.cell? (ad.add (k * 3)) = some (.bool v.has) ∧ w'.cell? ⟨(ad.add (k * 3)).block, (ad.add (k * 3)).off + 1, none⟩ = some (.slice v.A v.xs.length v.c) ∧ w'.cell? ⟨(ad.add (k * 3)).block, (ad.add (k * 3)).off + 2, none⟩ = some (.slice v.B v.sl.length v.d) ∧ w'.cell? ⟨I, 0, none⟩ = some (.int .i64 x.f0) ∧ w'.cell? ⟨I, 1, none⟩ = some (.int .i64 x.f1) ∧ w'.cell? ⟨I, 2, none⟩ = some (.int .i64 x.f2) ∧ w'.cell? ⟨w.heap.size, 0, none⟩ = some (.int .i64 day)) (ds := []) #[false, false, false, false, false, false, false, false, false, false, false] (by kernel_rfl) rfl rfl ⟨(HA1.out.get' HAD.out HV.out).1, (HA1.out.get' HAD.out HV.out).2.1, (HA1.out.get' HAD.out HV.out).2.2, blk_cell HI1.out 0, blk_cell HI1.out 1, blk_cell HI1.out 2, blk_cell HG1.out 0⟩ (fun hHeld => ?_)
  refine pure_ (i := 0) (N := some 30) (v := ?_) (a' := ?_) #[true, false, false, false, false, false, false, false, false, false, false] rfl rfl (by kernel_rfl) (fun _ _ _ h => h) (Or.inl ⟨by rfl, ?_⟩) ?_ ?_
  rotate_left
  ·intro w'
   go_simp
   with_reducible rfl
  rotate_left
  ·simp only [Act.put, lS, lZ, lU, i64_w, i32_w]
   rfl
  refine pure_ (i := 1) (N := some 31) (v := ?_) (a' := ?_) #[true, true, false, false, false, false, false, false, false, false, false] rfl rfl (by kernel_rfl) (fun _ _ _ h => h) (Or.inl ⟨by rfl, ?_⟩) ?_ ?_
  rotate_left
  ·intro w'
   go_simp
   with_reducible rfl
  rotate_left
  ·simp only [Act.put, lS, lZ, lU, i64_w, i32_w]
   rfl
  refine pure_ (i := 2) (N := some 32) (v := ?_) (a' := ?_) #[true, true, true, false, false, false, false, false, false, false, false] rfl rfl (by kernel_rfl) (fun _ _ _ h => h) (Or.inl ⟨by rfl, ?_⟩) ?_ ?_
  rotate_left
  ·intro w'
   go_simp
   with_reducible rfl
  rotate_left
  ·simp only [Act.put, lS, lZ, lU, i64_w, i32_w]
   rfl
  refine take_ (i := 3) (N := some 33) (v := ?_) (a' := ?_) #[true, true, true, true, false, false, false, false, false, false, false] rfl rfl (by kernel_rfl) (fun _ _ _ h => h) (Or.inl ⟨by rfl, ?_⟩) hHeld ?_ ?_
  rotate_left
  ·rintro w' ⟨s0, s1, s2, s3, s4, s5, s6⟩
   go_simp
   with_reducible rfl
  rotate_left
  ·simp only [Act.put, lS, lZ, lU, i64_w, i32_w]
   rfl
  refine take_ (i := 4) (N := some 34) (v := ?_) (a' := ?_) #[true, true, true, true, true, false, false, false, false, false, false] rfl rfl (by kernel_rfl) (fun _ _ _ h => h) (Or.inl ⟨by rfl, ?_⟩) hHeld ?_ ?_
  rotate_left
  ·rintro w' ⟨s0, s1, s2, s3, s4, s5, s6⟩
   go_simp
   with_reducible rfl
  rotate_left
  ·simp only [Act.put, lS, lZ, lU, i64_w, i32_w]
   rfl
  refine pure_ (i := 5) (N := some 35) (v := ?_) (a' := ?_) #[true, true, true, true, true, true, false, false, false, false, false] rfl rfl (by kernel_rfl) (fun _ _ _ h => h) (Or.inl ⟨by rfl, ?_⟩) ?_ ?_
  rotate_left
  ·intro w'
   go_simp
   with_reducible rfl
  rotate_left
  ·simp only [Act.put, lS, lZ, lU, i64_w, i32_w]
   rfl
  refine take_ (i := 6) (N := some 36) (v := ?_) (a' := ?_) #[true, true, true, true, true, true, true, false, false, false, false] rfl rfl (by kernel_rfl) (fun _ _ _ h => h) (Or.inl ⟨by rfl, ?_⟩) hHeld ?_ ?_
  rotate_left
  ·rintro w' ⟨s0, s1, s2, s3, s4, s5, s6⟩
   go_simp
   with_reducible rfl
  rotate_left
  ·simp only [Act.put, lS, lZ, lU, i64_w, i32_w]
   rfl
  refine pure_ (i := 7) (N := some 37) (v := ?_) (a' := ?_) #[true, true, true, true, true, true, true, true, false, false, false] rfl rfl (by kernel_rfl) (fun _ _ _ h => h) (Or.inl ⟨by rfl, ?_⟩) ?_ ?_
  rotate_left
  ·intro w'
   go_simp
   with_reducible rfl
  rotate_left
  ·simp only [Act.put, lS, lZ, lU, i64_w, i32_w]
   rfl
  refine pure_ (i := 8) (N := some 38) (v := ?_) (a' := ?_) #[true, true, true, true, true, true, true, true, true, false, false] rfl rfl (by kernel_rfl) (fun _ _ _ h => h) (Or.inl ⟨by rfl, ?_⟩) ?_ ?_
  rotate_left
  ·intro w'
   go_simp
   with_reducible rfl
  rotate_left
  ·simp only [Act.put, lS, lZ, lU, i64_w, i32_w]
   rfl
  refine one_ (i := 9) (N := some 39) #[true, true, true, true, true, true, true, true, true, true, false] rfl rfl (by kernel_rfl) (by decide) (fun K hK => ?_)
  refine goes_ (f := 125) Tryz.func125 (by rfl) (by rfl) #[.agg #[.bool v.has, .slice v.A v.xs.length v.c, .slice v.B v.sl.length v.d], .agg #[.int .i64 x.f0, .int .i64 x.f1, .int .i64 x.f2], .int .i64 day, .int .i64 k, .int .i64 code.length] (by rfl) rfl rfl (by first | (go_simp; done) | (go_simp; rfl) | rfl) ?_
  refine (HWR.out _ (FQ)).mono ?_
  rintro e V2 ⟨rfl, hF2⟩
  have HF2 : Aside0 (Fr w V2 []) := ⟨HF1.out.drew.trans hF2 (by simp)⟩
  have HG2 := AsM (hF2.blk (blk_drew HG1.out) (by simp))
  have HI2 := AsM (hF2.blk (blk_drew HI1.out) (by simp))
  have HA2 := AsM ((HA1.out.fr (Fr.refl V1 []).drew).fr hF2)
  refine ⟨_, rfl, hK.out _ _ ⟨(HA2.out.get' HAD.out HV.out).1, (HA2.out.get' HAD.out HV.out).2.1, (HA2.out.get' HAD.out HV.out).2.2, blk_cell HI2.out 0, blk_cell HI2.out 1, blk_cell HI2.out 2, blk_cell HG2.out 0⟩ (fun hHeld => ?_)⟩
  clear hF2 hK K
  refine norm_ (a' := ?_) ?_ ?_
  rotate_left
  ·show Act.put _ (some 39) _ = _
   simp only [Act.put, lS, lZ, lU, i64_w, i32_w]
   rfl
  refine pure_ (i := 10) (N := some 9) (v := ?_) (a' := ?_) #[true, true, true, true, true, true, true, true, true, true, true] rfl rfl (by kernel_rfl) (fun _ _ _ h => h) (Or.inl ⟨by rfl, ?_⟩) ?_ ?_
  rotate_left
  ·intro w'
   go_simp
   with_reducible rfl
  rotate_left
  ·simp only [Act.put, lS, lZ, lU, i64_w, i32_w]
   rfl
  refine done_ (by kernel_rfl) ?_
  go_upto_region 9 with fail
  by_cases hw0 : we = 0
  case neg =>
   have n4 : (we != 0) = true := by simpa using hw0
   have hr2 := HR1.out
   rw [if_pos hw0, if_neg hw0] at hr2
   have HR2 := AsM hr2
   have HW0 := AsM hw0
   clear hr2 hw0
   go_wp2
   go_ret3
   exact states_err (by rw [← HR2.out]) HW0.out HF2.out
  case pos =>
  subst hw0
  have hr2 := HR1.out
  simp only [ne_eq, not_true_eq_false, if_false] at hr2
  obtain ⟨wh, wt, wj⟩ := wrong0 HWE.out
  have HR2 := AsM hr2
  have HWJ := AsM wj
  clear hr2 wj HR1
  have HVO2 := AsM (HA2.out.ok v (List.mem_of_getElem? HV.out))
  have HBE : Aside0 (∀ W, Fr V2 W [] → Calls Tryz.prog 126 #[.agg #[.bool v.has, .slice v.A v.xs.length v.c, .slice v.B v.sl.length v.d], .agg #[.int .i64 x.f0, .int .i64 x.f1, .int .i64 x.f2]] W (BehPost bx bs v.B W)) := ⟨fun W hf => by
   have := behind_calls v.has v.A v.c v.xs v.B v.d v.sl x.f0 x.f1 x.f2 W o0 o1 (by omega) HVO2.out.cap (by omega) wt (HVO2.out.fr hf).stk (HVO2.out.fr hf).slt (HG0.out.fr0 (HF2.out.trans hf (by simp)))
   rw [HBX.out.1, HBX.out.2] at this
   exact this⟩
  have hbl1 : bx.length ≤ k + 1 := by have := behX_len x.f0 v.xs v.sl x.f1; rw [HBX.out.1] at this; omega
  have hbl2 : bs.length ≤ k + 1 := by have := behS_len x.f0 v.xs v.sl x.f1; rw [HBX.out.2] at this; omega
  have hS2 : S < V2.heap.size := blk_lt HA2.out.blk
  have hI2 : I < V2.heap.size := blk_lt HI2.out
  clear wt wh HWE
  go_upto_region 11 with fail
  refine start_ (n := 8) (S := fun w' => w'.cell? (ad.add (k * 3)) = some (.bool v.has) ∧ w'.cell? ⟨(ad.add (k * 3)).block, (ad.add (k * 3)).off + 1, none⟩ = some (.slice v.A v.xs.length v.c) ∧ w'.cell? ⟨(ad.add (k * 3)).block, (ad.add (k * 3)).off + 2, none⟩ = some (.slice v.B v.sl.length v.d) ∧ w'.cell? ⟨I, 0, none⟩ = some (.int .i64 x.f0) ∧ w'.cell? ⟨I, 1, none⟩ = some (.int .i64 x.f1) ∧ w'.cell? ⟨I, 2, none⟩ = some (.int .i64 x.f2)) (ds := [7]) #[false, false, false, false, false, false, false, false] (by kernel_rfl) rfl rfl ⟨(HA2.out.get' HAD.out HV.out).1, (HA2.out.get' HAD.out HV.out).2.1, (HA2.out.get' HAD.out HV.out).2.2, blk_cell HI2.out 0, blk_cell HI2.out 1, blk_cell HI2.out 2⟩ (fun hHeld => ?_)
  refine pure_ (i := 0) (N := some 44) (v := ?_) (a' := ?_) #[true, false, false, false, false, false, false, false] rfl rfl (by kernel_rfl) (fun _ _ _ h => h) (Or.inl ⟨by rfl, ?_⟩) ?_ ?_
  rotate_left
  ·intro w'
   go_simp
   with_reducible rfl
  rotate_left
  ·simp only [Act.put, lS, lZ, lU, i64_w, i32_w]
   rfl
  refine pure_ (i := 1) (N := some 45) (v := ?_) (a' := ?_) #[true, true, false, false, false, false, false, false] rfl rfl (by kernel_rfl) (fun _ _ _ h => h) (Or.inl ⟨by rfl, ?_⟩) ?_ ?_
  rotate_left
  ·intro w'
   go_simp
   with_reducible rfl
  rotate_left
  ·simp only [Act.put, lS, lZ, lU, i64_w, i32_w]
   rfl
  refine pure_ (i := 2) (N := some 46) (v := ?_) (a' := ?_) #[true, true, true, false, false, false, false, false] rfl rfl (by kernel_rfl) (fun _ _ _ h => h) (Or.inl ⟨by rfl, ?_⟩) ?_ ?_
  rotate_left
  ·intro w'
   go_simp
   with_reducible rfl
  rotate_left
  ·simp only [Act.put, lS, lZ, lU, i64_w, i32_w]
   rfl
  refine take_ (i := 3) (N := some 47) (v := ?_) (a' := ?_) #[true, true, true, true, false, false, false, false] rfl rfl (by kernel_rfl) (fun _ _ _ h => h) (Or.inl ⟨by rfl, ?_⟩) hHeld ?_ ?_
  rotate_left
  ·rintro w' ⟨s0, s1, s2, s3, s4, s5⟩
   go_simp
   with_reducible rfl
  rotate_left
  ·simp only [Act.put, lS, lZ, lU, i64_w, i32_w]
   rfl
  refine take_ (i := 4) (N := some 48) (v := ?_) (a' := ?_) #[true, true, true, true, true, false, false, false] rfl rfl (by kernel_rfl) (fun _ _ _ h => h) (Or.inl ⟨by rfl, ?_⟩) hHeld ?_ ?_
  rotate_left
  ·rintro w' ⟨s0, s1, s2, s3, s4, s5⟩
   go_simp
   with_reducible rfl
  rotate_left
  ·simp only [Act.put, lS, lZ, lU, i64_w, i32_w]
   rfl
  refine join_ (σ := Nat × Option Addr × Nat × Option Addr × Nat) 1 #[true, true, true, true, true, true, true, false] (fun s => [(49, .agg #[.bool true, .slice s.2.1 bx.length s.2.2.1, .slice s.2.2.2.1 bs.length s.2.2.2.2]), (10, .pointer (some ⟨s.1, 0, none⟩))]) (fun s w' => BehF bx bs v.B V2 s w') ?_ ?_
  rotate_left
  ·intro hCont
   refine two_ (i := 5) (j := 6) (Ni := some 49) (Nj := some 10) #[true, true, true, true, true, true, false, false] #[true, true, true, true, true, false, true, false] rfl rfl rfl rfl (by kernel_rfl) (by decide) (by decide) (fun K hK => ?_) (fun K hK => ?_)
   ·refine goes_ (f := 126) Tryz.func126 (by rfl) (by rfl) #[.agg #[.bool v.has, .slice v.A v.xs.length v.c, .slice v.B v.sl.length v.d], .agg #[.int .i64 x.f0, .int .i64 x.f1, .int .i64 x.f2]] (by rfl) rfl rfl (by first | (go_simp; done) | (go_simp; rfl) | rfl) ?_
    refine (HBE.out _ (FQ)).mono ?_
    rintro e W3 ⟨A3, c3, B3, d3, rfl, hc3, hC3, hK3, ha3, hb3, hF3⟩
    have HA3 := AsM ((HA2.out.fr (Fr.refl V2 []).drew).fr hF3)
    have HI3 := AsM (hF3.blk (blk_drew HI2.out) (by simp))
    have HQ3 := AsM (And.intro hc3 (And.intro hC3 (And.intro hK3 (And.intro ha3 (And.intro hb3 hF3)))))
    clear hc3 hC3 hK3 ha3 hb3 hF3
    refine ⟨_, rfl, hK.out _ _ ⟨(HA3.out.get' HAD.out HV.out).1, (HA3.out.get' HAD.out HV.out).2.1, (HA3.out.get' HAD.out HV.out).2.2, blk_cell HI3.out 0, blk_cell HI3.out 1, blk_cell HI3.out 2⟩ (fun hHeld => ?_)⟩
    clear hK K
    refine norm_ (a' := ?_) ?_ ?_
    rotate_left
    ·show Act.put _ (some 49) _ = _
     simp only [Act.put, lS, lZ, lU, i64_w, i32_w]
     rfl
    refine one_ (i := 6) (N := some 10) #[true, true, true, true, true, true, true, false] rfl rfl (by kernel_rfl) (by decide) (fun K hK => ?_)
    refine value_ (w1 := ?_) (v := ?_) (by rfl) rfl ?_ ?_
    rotate_left 2
    ·go_simp
     constructor
     ·rfl
     ·rfl
    have HA4 := AsM (HA3.out.fr ((Fr.refl W3 []).alloc (.cells #[.bool false, .slice none 0 0, .slice none 0 0] 175)))
    refine hK.out _ _ ⟨(HA4.out.get' HAD.out HV.out).1, (HA4.out.get' HAD.out HV.out).2.1, (HA4.out.get' HAD.out HV.out).2.2, blk_cell (blk_alloc HI3.out _) 0, blk_cell (blk_alloc HI3.out _) 1, blk_cell (blk_alloc HI3.out _) 2⟩ (fun hHeld => ?_)
    clear hK K
    refine norm_ (a' := ?_) ?_ ?_
    rotate_left
    ·show Act.put _ (some 10) _ = _
     simp only [Act.put, lS, lZ, lU, i64_w, i32_w]
     rfl
    obtain ⟨hc3, hC3, hK3, ha3, hb3, hF3⟩ := HQ3.out
    exact norm_ (by simp only [putAll, Act.put, List.setIfInBounds_toArray, List.set_cons_zero, List.set_cons_succ]) (hCont (W3.heap.size, A3, c3, B3, d3) _ ⟨(hF3.alloc _ : Fr V2.drew _ []), hc3, Kd.C_alloc hC3 _, Kd.C_alloc hK3 _, ha3, hb3, blk_newN rfl, by have := hF3.size; exact this⟩)
   ·refine value_ (w1 := ?_) (v := ?_) (by rfl) rfl ?_ ?_
    rotate_left 2
    ·go_simp
     constructor
     ·rfl
     ·rfl
    have HA4 := AsM (HA2.out.fr ((Fr.refl V2 []).drew.alloc (.cells #[.bool false, .slice none 0 0, .slice none 0 0] 175)))
    refine hK.out _ _ ⟨(HA4.out.get' HAD.out HV.out).1, (HA4.out.get' HAD.out HV.out).2.1, (HA4.out.get' HAD.out HV.out).2.2, blk_cell (blk_alloc (blk_drew HI2.out) _) 0, blk_cell (blk_alloc (blk_drew HI2.out) _) 1, blk_cell (blk_alloc (blk_drew HI2.out) _) 2⟩ (fun hHeld => ?_)
    clear hK K
    refine norm_ (a' := ?_) ?_ ?_
    rotate_left
    ·show Act.put _ (some 10) _ = _
     simp only [Act.put, lS, lZ, lU, i64_w, i32_w]
     rfl
    refine one_ (i := 5) (N := some 49) #[true, true, true, true, true, true, true, false] rfl rfl (by kernel_rfl) (by decide) (fun K hK => ?_)
    refine goes_ (f := 126) Tryz.func126 (by rfl) (by rfl) #[.agg #[.bool v.has, .slice v.A v.xs.length v.c, .slice v.B v.sl.length v.d], .agg #[.int .i64 x.f0, .int .i64 x.f1, .int .i64 x.f2]] (by rfl) rfl rfl (by first | (go_simp; done) | (go_simp; rfl) | rfl) ?_
    refine (HBE.out _ (FQ)).mono ?_
    rintro e W3 ⟨A3, c3, B3, d3, rfl, hc3, hC3, hK3, ha3, hb3, hF3⟩
    have HA3 := AsM (HA4.out.fr hF3)
    have HI3 := AsM (hF3.blk (blk_alloc (blk_drew HI2.out) _) (by simp))
    have HD3 := AsM (hF3.blk (g := V2.drew.heap.size) (blk_newN rfl) (by simp))
    have HQ3 := AsM (And.intro hc3 (And.intro hC3 (And.intro hK3 (And.intro ha3 (And.intro hb3 hF3)))))
    clear hc3 hC3 hK3 ha3 hb3 hF3
    refine ⟨_, rfl, hK.out _ _ ⟨(HA3.out.get' HAD.out HV.out).1, (HA3.out.get' HAD.out HV.out).2.1, (HA3.out.get' HAD.out HV.out).2.2, blk_cell HI3.out 0, blk_cell HI3.out 1, blk_cell HI3.out 2⟩ (fun hHeld => ?_)⟩
    clear hK K
    refine norm_ (a' := ?_) ?_ ?_
    rotate_left
    ·show Act.put _ (some 49) _ = _
     simp only [Act.put, lS, lZ, lU, i64_w, i32_w]
     rfl
    obtain ⟨hc3, hC3, hK3, ha3, hb3, hF3⟩ := HQ3.out
    exact norm_ (by simp only [putAll, Act.put, List.setIfInBounds_toArray, List.set_cons_zero, List.set_cons_succ]) (hCont (V2.heap.size, A3, c3, B3, d3) _ ⟨Fr.trans (M := []) ((Fr.refl V2.drew []).alloc _) hF3 (fun i hi => by cases hi), hc3, hC3, hK3, fun ad e => by have := ha3 ad e; simp at this; omega, hb3.imp_right (fun h ad e => by have := h ad e; simp at this; omega), HD3.out, Nat.le_refl _⟩)
  rintro ⟨D, A3, c3, B3, d3⟩ W4 ⟨hF4, hc4, hC4, hK4, ha4, hb4, hD4, hDl⟩
  simp only at hc4 hC4 hK4 ha4 hb4 hD4 hDl
  refine norm_ (a' := ?_) ?_ ?_
  rotate_left
  ·simp only [putAll, Act.put, List.setIfInBounds_toArray, List.set_cons_zero, List.set_cons_succ]
   rfl
  have HF4 := AsM hF4
  have HD4 := AsM hD4
  have HQ4 := AsM (And.intro hc4 (And.intro hC4 (And.intro hK4 (And.intro ha4 hb4))))
  obtain ⟨d0, d1, d2⟩ := cc3 hD4
  have z0 := blk_frozen hD4 0
  have z1 := blk_frozen hD4 1
  have z2 := blk_frozen hD4 2
  clear hF4 hc4 hC4 hK4 ha4 hb4 hD4
  refine last_ (i := 7) (N := none) #[true, true, true, true, true, true, true, true] rfl rfl (by kernel_rfl) (by decide) (fun K hK => ?_)
  refine skip_ (w1 := ?_) (by rfl) rfl ?_ ?_
  rotate_left
  ·go_simp
   rfl
  refine hK.out _ _ ?_
  clear hK K
  refine done_ (by kernel_rfl) ?_
  go_upto_region 12 with fail
  refine name_ (fun V => Aside0 (Fr w V []) ∧ Aside0 (V.heap[w.heap.size]? = some (.cells #[.int .i64 day, .slice (some cad) code.length cc] 54 (0, 0))) ∧ Aside0 (V.heap[I]? = some (.cells #[.int .i64 x.f0, .int .i64 x.f1, .int .i64 x.f2] 113 (0, 0))) ∧ Aside0 (V.heap[D]? = some (.cells #[.bool true, .slice A3 bx.length c3, .slice B3 bs.length d3] 175 (0, 0))) ∧ Aside0 (StInv w S (k + 1) code.length so l V) ∧ Aside0 (RV.Ok ⟨true, A3, c3, bx, B3, d3, bs⟩ V S)) ?phi ?_
  case phi =>
   have hfA : Fr V2.drew (((W4.setCell ⟨D, 0, none⟩ (.bool true)).setCell ⟨D, 1, none⟩ (.slice A3 bx.length c3)).setCell ⟨D, 2, none⟩ (.slice B3 bs.length d3)) [] := ((HF4.out.setCell _ _ (.inr (by simpa using hDl))).setCell _ _ (.inr (by simpa using hDl))).setCell _ _ (.inr (by simpa using hDl))
   have hfD : Fr W4 (((W4.setCell ⟨D, 0, none⟩ (.bool true)).setCell ⟨D, 1, none⟩ (.slice A3 bx.length c3)).setCell ⟨D, 2, none⟩ (.slice B3 bs.length d3)) [D] := (((Fr.refl W4 [D]).setCell _ _ (.inl (by simp))).setCell _ _ (.inl (by simp))).setCell _ _ (.inl (by simp))
   obtain ⟨hc4, hC4, hK4, ha4, hb4⟩ := HQ4.out
   have hfw := HF2.out.drew.trans hfA (by simp)
   have hsg := hfA.blk (blk_drew HG2.out) (by simp)
   exact ⟨⟨hfw⟩, ⟨hsg⟩, ⟨hfA.blk (blk_drew HI2.out) (by simp)⟩, ⟨blk_to (blk_set (blk_set (blk_set HD4.out 0 _) 1 _) 2 _) rfl⟩, ⟨⟨hfw, HSO.out ▸ hsg, (HA2.out.fr (Fr.refl V2 []).drew).fr hfA, HLEN.out, fun v hv => by have := HSMALL.out v hv; omega⟩⟩, ⟨⟨C_frn hC4 hfD (fun hn => ints_ne hC4 HD4.out hn) K_int, hc4, C_frn hK4 hfD (fun hn => kepts_ne hK4 HD4.out hn) K_kept, fun ad e => by have := ha4 ad e; omega, fun ad e => by
    rcases hb4 with h9 | h9
    ·exact HVO2.out.b ad (h9 ▸ e)
    ·have := h9 ad e
     omega⟩⟩⟩
  clear d0 d1 d2 z0 z1 z2 HF1 HG1 HI1 HA1 HVO1 HWR HF2 HG2 HI2 HA2 HVO2 HBE HF4 HD4 HQ4 hHeld HV hvs1 hvs2 HSMALL HLEN
  rintro V4 ⟨HFV, HGV, HIV1, HDV, HIV, HBV⟩
  obtain ⟨v0, v1⟩ := cc2 HIV1.out
  have hS4 := blk_lt HIV.out.arr.blk
  have hI4 := blk_lt HIV1.out
  have hD4 := blk_lt HDV.out
  by_cases c1 : x.f0 = 26 ∨ x.f0 = 0
  case pos =>
   have HH1 : Aside0 (hand1 x k (true, bx, bs) (l.map RV.rs) = (0, l.map RV.rs)) := ⟨by unfold hand1; rw [if_pos c1]⟩
   by_cases c26 : x.f0 = 26
   case pos =>
    have n1 : (x.f0 != 26) = false := by simpa using c26
    have n2 : (x.f0 == 26) = true := by simpa using c26
    obtain ⟨j2, hj2⟩ : ∃ j2, k + 1 + x.f1.toNat = j2 := ⟨_, rfl⟩
    have hj2l : j2 < code.length := by have := HWJ.out (.inl c26); omega
    have e2 : (k : Int) + 1 + x.f1 = (j2 : Int) := by omega
    have HJ2 := AsM hj2
    obtain ⟨o2, ho2⟩ : ∃ o, j2 * 3 = o := ⟨_, rfl⟩
    have ea2 : ad.add (j2 * 3) = ⟨S, o2, none⟩ := by rw [HAD.out, add_ad, ho2]
    have HO2 := AsM ho2
    clear ho2
    clear hj2
    have HC26 := AsM c26
    clear c1 c26
    go_upto_region 18 with fail
    clear e2
    obtain ⟨u, hul⟩ : ∃ u, (l)[j2]? = some u := ⟨_, List.getElem?_eq_getElem (by have := HIV.out.len; omega)⟩
    have HU := AsM hul
    clear hul
    have HAV := AsM HIV.out.arr
    have HHA := AsM (hand_at V4 S u ⟨true, A3, c3, bx, B3, d3, bs⟩ (HAV.out.ok u (List.mem_of_getElem? HU.out)) HBV.out (by simp only; omega) (by simp only; omega))
    refine start_ (n := 14) (S := fun w' => w'.cell? ⟨S, o2, none⟩ = some (.bool u.has) ∧ w'.cell? ⟨S, o2 + 1, none⟩ = some (.slice u.A u.xs.length u.c) ∧ w'.cell? ⟨S, o2 + 2, none⟩ = some (.slice u.B u.sl.length u.d) ∧ w'.cell? ⟨D, 0, none⟩ = some (.bool true) ∧ w'.cell? ⟨D, 1, none⟩ = some (.slice A3 bx.length c3) ∧ w'.cell? ⟨D, 2, none⟩ = some (.slice B3 bs.length d3)) (ds := [12]) #[false, false, false, false, false, false, false, false, false, false, false, false, false, false] (by kernel_rfl) rfl rfl ⟨(HAV.out.geto HO2.out HU.out).1, (HAV.out.geto HO2.out HU.out).2.1, (HAV.out.geto HO2.out HU.out).2.2, blk_cell HDV.out 0, blk_cell HDV.out 1, blk_cell HDV.out 2⟩ (fun hHeld => ?_)
    refine pure_ (i := 0) (N := some 90) (v := ?_) (a' := ?_) #[true, false, false, false, false, false, false, false, false, false, false, false, false, false] rfl rfl (by kernel_rfl) (fun _ _ _ h => h) (Or.inl ⟨by rfl, ?_⟩) ?_ ?_
    rotate_left
    ·intro w'
     go_simp
     with_reducible rfl
    rotate_left
    ·simp only [Act.put, lS, lZ, lU, i64_w, i32_w]
     rfl
    refine pure_ (i := 1) (N := some 91) (v := ?_) (a' := ?_) #[true, true, false, false, false, false, false, false, false, false, false, false, false, false] rfl rfl (by kernel_rfl) (fun _ _ _ h => h) (Or.inl ⟨by rfl, ?_⟩) ?_ ?_
    rotate_left
    ·intro w'
     go_simp
     with_reducible rfl
    rotate_left
    ·simp only [Act.put, lS, lZ, lU, i64_w, i32_w]
     rfl
    refine pure_ (i := 2) (N := some 92) (v := ?_) (a' := ?_) #[true, true, true, false, false, false, false, false, false, false, false, false, false, false] rfl rfl (by kernel_rfl) (fun _ _ _ h => h) (Or.inl ⟨by rfl, ?_⟩) ?_ ?_
    rotate_left
    ·intro w'
     go_simp
     with_reducible rfl
    rotate_left
    ·simp only [Act.put, lS, lZ, lU, i64_w, i32_w]
     rfl
    refine pure_ (i := 3) (N := some 93) (v := ?_) (a' := ?_) #[true, true, true, true, false, false, false, false, false, false, false, false, false, false] rfl rfl (by kernel_rfl) (fun _ _ _ h => h) (Or.inl ⟨by rfl, ?_⟩) ?_ ?_
    rotate_left
    ·intro w'
     go_simp
     with_reducible rfl
    rotate_left
    ·simp only [Act.put, lS, lZ, lU, i64_w, i32_w]
     rfl
    refine pure_ (i := 4) (N := some 94) (v := ?_) (a' := ?_) #[true, true, true, true, true, false, false, false, false, false, false, false, false, false] rfl rfl (by kernel_rfl) (fun _ _ _ h => h) (Or.inl ⟨by rfl, ?_⟩) ?_ ?_
    rotate_left
    ·intro w'
     go_simp
     with_reducible rfl
    rotate_left
    ·simp only [Act.put, lS, lZ, lU, i64_w, i32_w]
     rfl
    refine take_ (i := 5) (N := some 95) (v := ?_) (a' := ?_) #[true, true, true, true, true, true, false, false, false, false, false, false, false, false] rfl rfl (by kernel_rfl) (fun _ _ _ h => h) (Or.inl ⟨by rfl, ?_⟩) hHeld ?_ ?_
    rotate_left
    ·rintro w' ⟨s0, s1, s2, s3, s4, s5⟩
     go_simp
     with_reducible rfl
    rotate_left
    ·simp only [Act.put, lS, lZ, lU, i64_w, i32_w]
     rfl
    refine take_ (i := 6) (N := some 96) (v := ?_) (a' := ?_) #[true, true, true, true, true, true, true, false, false, false, false, false, false, false] rfl rfl (by kernel_rfl) (fun _ _ _ h => h) (Or.inl ⟨by rfl, ?_⟩) hHeld ?_ ?_
    rotate_left
    ·rintro w' ⟨s0, s1, s2, s3, s4, s5⟩
     go_simp
     with_reducible rfl
    rotate_left
    ·simp only [Act.put, lS, lZ, lU, i64_w, i32_w]
     rfl
    refine one_ (i := 7) (N := some 97) #[true, true, true, true, true, true, true, true, false, false, false, false, false, false] rfl rfl (by kernel_rfl) (by decide) (fun K hK => ?_)
    refine goes_ (f := 127) Tryz.func127 (by rfl) (by rfl) #[.agg #[.bool u.has, .slice u.A u.xs.length u.c, .slice u.B u.sl.length u.d], .agg #[.bool true, .slice A3 bx.length c3, .slice B3 bs.length d3]] (by rfl) rfl rfl (by first | (go_simp; done) | (go_simp; rfl) | rfl) ?_
    refine (HHA.out _ (FQ)).mono ?_
    rintro e W5 hP5
    obtain ⟨uh, UA, un, uc, UB, um, ud, er, rfl, hF5, hQ5⟩ := hand_any hP5
    have HF5 : Aside0 (Fr V4.drew W5 []) := ⟨hF5⟩
    have HQ5 := AsM hQ5
    have HA5 := AsM ((HAV.out.fr (Fr.refl V4 []).drew).fr hF5)
    have HD5 := AsM (hF5.blk (blk_drew HDV.out) (by simp))
    have f0 := blk_frozen HA5.out.blk o2
    have f1 := blk_frozen HA5.out.blk (o2 + 1)
    have f2 := blk_frozen HA5.out.blk (o2 + 2)
    have g0 := (HA5.out.geto HO2.out HU.out).1
    have g1 := (HA5.out.geto HO2.out HU.out).2.1
    have g2 := (HA5.out.geto HO2.out HU.out).2.2
    refine ⟨_, rfl, hK.out _ _ ⟨(HA5.out.geto HO2.out HU.out).1, (HA5.out.geto HO2.out HU.out).2.1, (HA5.out.geto HO2.out HU.out).2.2, blk_cell HD5.out 0, blk_cell HD5.out 1, blk_cell HD5.out 2⟩ (fun hHeld => ?_)⟩
    clear hF5 hQ5 hP5 hK K
    refine norm_ (a' := ?_) ?_ ?_
    rotate_left
    ·show Act.put _ (some 97) _ = _
     simp only [Act.put, lS, lZ, lU, i64_w, i32_w]
     rfl
    refine pure_ (i := 8) (N := some 89) (v := ?_) (a' := ?_) #[true, true, true, true, true, true, true, true, true, false, false, false, false, false] rfl rfl (by kernel_rfl) (fun _ _ _ h => h) (Or.inl ⟨by rfl, ?_⟩) ?_ ?_
    rotate_left
    ·intro w'
     go_simp
     with_reducible rfl
    rotate_left
    ·simp only [Act.put, lS, lZ, lU, i64_w, i32_w]
     rfl
    refine pure_ (i := 9) (N := some 98) (v := ?_) (a' := ?_) #[true, true, true, true, true, true, true, true, true, true, false, false, false, false] rfl rfl (by kernel_rfl) (fun _ _ _ h => h) (Or.inl ⟨by rfl, ?_⟩) ?_ ?_
    rotate_left
    ·intro w'
     go_simp
     with_reducible rfl
    rotate_left
    ·simp only [Act.put, lS, lZ, lU, i64_w, i32_w]
     rfl
    refine pure_ (i := 10) (N := some 99) (v := ?_) (a' := ?_) #[true, true, true, true, true, true, true, true, true, true, true, false, false, false] rfl rfl (by kernel_rfl) (fun _ _ _ h => h) (Or.inl ⟨by rfl, ?_⟩) ?_ ?_
    rotate_left
    ·intro w'
     go_simp
     with_reducible rfl
    rotate_left
    ·simp only [Act.put, lS, lZ, lU, i64_w, i32_w]
     rfl
    refine pure_ (i := 11) (N := some 100) (v := ?_) (a' := ?_) #[true, true, true, true, true, true, true, true, true, true, true, true, false, false] rfl rfl (by kernel_rfl) (fun _ _ _ h => h) (Or.inl ⟨by rfl, ?_⟩) ?_ ?_
    rotate_left
    ·intro w'
     go_simp
     with_reducible rfl
    rotate_left
    ·simp only [Act.put, lS, lZ, lU, i64_w, i32_w]
     rfl
    refine last_ (i := 12) (N := none) #[true, true, true, true, true, true, true, true, true, true, true, true, true, false] rfl rfl (by kernel_rfl) (by decide) (fun K hK => ?_)
    refine skip_ (w1 := ?_) (by rfl) rfl ?_ ?_
    rotate_left
    ·go_simp
     rfl
    refine hK.out _ _ ?_
    clear hK K f0 f1 f2 g0 g1 g2
    refine pure_ (i := 13) (N := some 9) (v := ?_) (a' := ?_) #[true, true, true, true, true, true, true, true, true, true, true, true, true, true] rfl rfl (by kernel_rfl) (fun _ _ _ h => h) (Or.inl ⟨by rfl, ?_⟩) ?_ ?_
    rotate_left
    ·intro w'
     go_simp
     with_reducible rfl
    rotate_left
    ·simp only [Act.put, lS, lZ, lU, i64_w, i32_w]
     rfl
    refine done_ (by kernel_rfl) ?_
    go_upto_region 19 with fail
    have hcs := HQ5.out
    rcases hcs with ⟨her, heq⟩ | ⟨rfl, h5, rfl, rfl, rfl, rfl, rfl, hC5, hB5⟩
    ·have n5 : (er != 0) = true := by simpa using her
     have HE5 := AsM (And.intro her heq)
     clear her heq
     go_wp2
     go_ret3
     have hh : handTo (true, bx, bs) ((l).map RV.rs) j2 = (er, (l).map RV.rs) := by
      rw [handTo_at HU.out]
      simp only
      rw [← HE5.out.2, if_pos HE5.out.1]
     refine states_err ?_ HE5.out.1 (by exact (((HFV.out.drew.trans HF5.out (by simp)).setCell _ _ (.inr (by simp; omega))).setCell _ _ (.inr (by simp; omega))).setCell _ _ (.inr (by simp; omega)))
     have hr9 := HR2.out
     rw [HH1.out] at hr9
     unfold hand2 at hr9
     simp only [ne_eq, not_true_eq_false, if_false, if_pos (Or.inl HC26.out), HJ2.out, hh] at hr9
     try rw [if_neg HE5.out.1] at hr9
     rw [← hr9]
     try simp
    have HE5 := AsM h5
    have HIN := AsM (handed (b := ⟨true, A3, c3, bx, B3, d3, bs⟩) (UB := UB) (ud := ud) HO2.out (⟨HFV.out.drew.trans HF5.out (by simp), HF5.out.blk (blk_drew HIV.out.seg) (by simp), HA5.out, HIV.out.len, HIV.out.small⟩ : StInv w S (k + 1) code.length so _ W5) HU.out (HBV.out.fr ((Fr.refl V4 []).drew.trans HF5.out (by simp))) ⟨hbl1, hbl2⟩ hSw hC5 (fun ad e => by
     rcases hB5 with h9 | h9
     ·exact HBV.out.b ad (h9 ▸ e)
     ·have h7 := h9 ad e
      have h8 := blk_lt HAV.out.blk
      simp at h7
      omega))
    have HHT : Aside0 (handTo (true, bx, bs) ((l).map RV.rs) j2 = (0, ((l).map RV.rs).set j2 (true, bx, handRS u.has u.sl bs))) := ⟨by rw [handTo_at HU.out]; simp only; rw [HE5.out]; simp only [ne_eq, not_true_eq_false, if_false]⟩
    clear h5 hC5 hB5
    go_wp2
    go_roundg (code.length - (k + 1))
    case measure => have := HM.out; omega
    case rel => exact ⟨k + 1, _, by go_num, by omega, ⟨Nat.le_refl _⟩, ⟨HIN.out⟩, ⟨by
     have hr9 := HR2.out
     rw [HH1.out] at hr9
     unfold hand2 at hr9
     simp only [ne_eq, not_true_eq_false, if_false, if_pos (Or.inl HC26.out), HJ2.out, HHT.out, if_true] at hr9
     rw [List.map_set]
     exact hr9⟩⟩
   case neg =>
    have c0 : x.f0 = 0 := c1.resolve_left c26
    have n1 : (x.f0 != 26) = true := by simpa using c26
    have n2 : (x.f0 == 26) = false := by simpa using c26
    have n3z : (x.f0 != 0) = false := by simpa using c0
    have n4z : (x.f0 == 27) = false := by rw [c0]; decide
    have HC0 := AsM c0
    clear c1 c26 c0
    go_wp2
    go_roundg (code.length - (k + 1))
    case measure => have := HM.out; omega
    case rel => exact ⟨k + 1, _, by go_num, by omega, ⟨Nat.le_refl _⟩, ⟨HIV.out⟩, ⟨by
     have hr9 := HR2.out
     rw [HH1.out] at hr9
     unfold hand2 at hr9
     have hno : ¬ (x.f0 = 26 ∨ x.f0 = 27) := by have := HC0.out; omega
     simp only [ne_eq, not_true_eq_false, if_false, if_neg hno, if_true] at hr9
     exact hr9⟩⟩
  case neg =>
  have n1 : (x.f0 != 26) = true := by rw [bne_iff_ne]; exact fun h => c1 (.inl h)
  have n2 : (x.f0 == 26) = false := by rw [beq_eq_false_iff_ne]; exact fun h => c1 (.inl h)
  have n3z : (x.f0 != 0) = true := by rw [bne_iff_ne]; exact fun h => c1 (.inr h)
  have HH1 : Aside0 (hand1 x k (true, bx, bs) (l.map RV.rs) = handTo (true, bx, bs) (l.map RV.rs) (k + 1)) := ⟨by unfold hand1; rw [if_neg c1]⟩
  obtain ⟨j1, hj1⟩ : ∃ j1, k + 1 = j1 := ⟨_, rfl⟩
  have hj1l : j1 < code.length := by
   rcases Nat.lt_or_ge j1 code.length with h | h
   ·exact h
   ·exact absurd (HEND.out x (by rw [show code.length - 1 = k by omega]; exact HXM.out.2)) (fun h0 => c1 (.inr h0))
  have e1 : IntKind.i64.wrap ((k : Int) + 1) = (j1 : Int) := by rw [i64_w]; unfold wrap64; omega
  have HJ1 := AsM hj1
  obtain ⟨o1, ho1⟩ : ∃ o, j1 * 3 = o := ⟨_, rfl⟩
  have ea1 : ad.add (j1 * 3) = ⟨S, o1, none⟩ := by rw [HAD.out, add_ad, ho1]
  have HO1 := AsM ho1
  clear ho1
  clear hj1
  have HC1 := AsM c1
  clear c1
  go_upto_region 13 with fail
  obtain ⟨u, hul⟩ : ∃ u, (l)[j1]? = some u := ⟨_, List.getElem?_eq_getElem (by have := HIV.out.len; omega)⟩
  have HU := AsM hul
  clear hul
  have HAV := AsM HIV.out.arr
  have HHA := AsM (hand_at V4 S u ⟨true, A3, c3, bx, B3, d3, bs⟩ (HAV.out.ok u (List.mem_of_getElem? HU.out)) HBV.out (by simp only; omega) (by simp only; omega))
  refine start_ (n := 16) (S := fun w' => w'.cell? ⟨S, o1, none⟩ = some (.bool u.has) ∧ w'.cell? ⟨S, o1 + 1, none⟩ = some (.slice u.A u.xs.length u.c) ∧ w'.cell? ⟨S, o1 + 2, none⟩ = some (.slice u.B u.sl.length u.d) ∧ w'.cell? ⟨D, 0, none⟩ = some (.bool true) ∧ w'.cell? ⟨D, 1, none⟩ = some (.slice A3 bx.length c3) ∧ w'.cell? ⟨D, 2, none⟩ = some (.slice B3 bs.length d3)) (ds := [14]) #[false, false, false, false, false, false, false, false, false, false, false, false, false, false, false, false] (by kernel_rfl) rfl rfl ⟨(HAV.out.geto HO1.out HU.out).1, (HAV.out.geto HO1.out HU.out).2.1, (HAV.out.geto HO1.out HU.out).2.2, blk_cell HDV.out 0, blk_cell HDV.out 1, blk_cell HDV.out 2⟩ (fun hHeld => ?_)
  refine pure_ (i := 0) (N := some 59) (v := ?_) (a' := ?_) #[true, false, false, false, false, false, false, false, false, false, false, false, false, false, false, false] rfl rfl (by kernel_rfl) (fun _ _ _ h => h) (Or.inl ⟨by rfl, ?_⟩) ?_ ?_
  rotate_left
  ·intro w'
   go_simp
   with_reducible rfl
  rotate_left
  ·simp only [Act.put, lS, lZ, lU, i64_w, i32_w]
   rfl
  refine pure_ (i := 1) (N := some 60) (v := ?_) (a' := ?_) #[true, true, false, false, false, false, false, false, false, false, false, false, false, false, false, false] rfl rfl (by kernel_rfl) (fun _ _ _ h => h) (Or.inl ⟨by rfl, ?_⟩) ?_ ?_
  rotate_left
  ·intro w'
   go_simp
   with_reducible rfl
  rotate_left
  ·simp only [Act.put, lS, lZ, lU, i64_w, i32_w]
   rfl
  refine pure_ (i := 2) (N := some 61) (v := ?_) (a' := ?_) #[true, true, true, false, false, false, false, false, false, false, false, false, false, false, false, false] rfl rfl (by kernel_rfl) (fun _ _ _ h => h) (Or.inl ⟨by rfl, ?_⟩) ?_ ?_
  rotate_left
  ·intro w'
   go_simp
   with_reducible rfl
  rotate_left
  ·simp only [Act.put, lS, lZ, lU, i64_w, i32_w]
   rfl
  refine pure_ (i := 3) (N := some 62) (v := ?_) (a' := ?_) #[true, true, true, true, false, false, false, false, false, false, false, false, false, false, false, false] rfl rfl (by kernel_rfl) (fun _ _ _ h => h) (Or.inl ⟨by rfl, ?_⟩) ?_ ?_
  rotate_left
  ·intro w'
   go_simp
   with_reducible rfl
  rotate_left
  ·simp only [Act.put, lS, lZ, lU, i64_w, i32_w]
   rfl
  refine pure_ (i := 4) (N := some 63) (v := ?_) (a' := ?_) #[true, true, true, true, true, false, false, false, false, false, false, false, false, false, false, false] rfl rfl (by kernel_rfl) (fun _ _ _ h => h) (Or.inl ⟨by rfl, ?_⟩) ?_ ?_
  rotate_left
  ·intro w'
   go_simp
   with_reducible rfl
  rotate_left
  ·simp only [Act.put, lS, lZ, lU, i64_w, i32_w]
   rfl
  refine pure_ (i := 5) (N := some 64) (v := ?_) (a' := ?_) #[true, true, true, true, true, true, false, false, false, false, false, false, false, false, false, false] rfl rfl (by kernel_rfl) (fun _ _ _ h => h) (Or.inl ⟨by rfl, ?_⟩) ?_ ?_
  rotate_left
  ·intro w'
   go_simp
   with_reducible rfl
  rotate_left
  ·simp only [Act.put, lS, lZ, lU, i64_w, i32_w]
   rfl
  refine pure_ (i := 6) (N := some 65) (v := ?_) (a' := ?_) #[true, true, true, true, true, true, true, false, false, false, false, false, false, false, false, false] rfl rfl (by kernel_rfl) (fun _ _ _ h => h) (Or.inl ⟨by rfl, ?_⟩) ?_ ?_
  rotate_left
  ·intro w'
   go_simp
   with_reducible rfl
  rotate_left
  ·simp only [Act.put, lS, lZ, lU, i64_w, i32_w]
   rfl
  refine take_ (i := 7) (N := some 66) (v := ?_) (a' := ?_) #[true, true, true, true, true, true, true, true, false, false, false, false, false, false, false, false] rfl rfl (by kernel_rfl) (fun _ _ _ h => h) (Or.inl ⟨by rfl, ?_⟩) hHeld ?_ ?_
  rotate_left
  ·rintro w' ⟨s0, s1, s2, s3, s4, s5⟩
   go_simp
   with_reducible rfl
  rotate_left
  ·simp only [Act.put, lS, lZ, lU, i64_w, i32_w]
   rfl
  refine take_ (i := 8) (N := some 67) (v := ?_) (a' := ?_) #[true, true, true, true, true, true, true, true, true, false, false, false, false, false, false, false] rfl rfl (by kernel_rfl) (fun _ _ _ h => h) (Or.inl ⟨by rfl, ?_⟩) hHeld ?_ ?_
  rotate_left
  ·rintro w' ⟨s0, s1, s2, s3, s4, s5⟩
   go_simp
   with_reducible rfl
  rotate_left
  ·simp only [Act.put, lS, lZ, lU, i64_w, i32_w]
   rfl
  refine one_ (i := 9) (N := some 68) #[true, true, true, true, true, true, true, true, true, true, false, false, false, false, false, false] rfl rfl (by kernel_rfl) (by decide) (fun K hK => ?_)
  refine goes_ (f := 127) Tryz.func127 (by rfl) (by rfl) #[.agg #[.bool u.has, .slice u.A u.xs.length u.c, .slice u.B u.sl.length u.d], .agg #[.bool true, .slice A3 bx.length c3, .slice B3 bs.length d3]] (by rfl) rfl rfl (by first | (go_simp; done) | (go_simp; rfl) | rfl) ?_
  refine (HHA.out _ (FQ)).mono ?_
  rintro e W5 hP5
  obtain ⟨uh, UA, un, uc, UB, um, ud, er, rfl, hF5, hQ5⟩ := hand_any hP5
  have HF5 : Aside0 (Fr V4.drew W5 []) := ⟨hF5⟩
  have HQ5 := AsM hQ5
  have HA5 := AsM ((HAV.out.fr (Fr.refl V4 []).drew).fr hF5)
  have HD5 := AsM (hF5.blk (blk_drew HDV.out) (by simp))
  have f0 := blk_frozen HA5.out.blk o1
  have f1 := blk_frozen HA5.out.blk (o1 + 1)
  have f2 := blk_frozen HA5.out.blk (o1 + 2)
  have g0 := (HA5.out.geto HO1.out HU.out).1
  have g1 := (HA5.out.geto HO1.out HU.out).2.1
  have g2 := (HA5.out.geto HO1.out HU.out).2.2
  refine ⟨_, rfl, hK.out _ _ ⟨(HA5.out.geto HO1.out HU.out).1, (HA5.out.geto HO1.out HU.out).2.1, (HA5.out.geto HO1.out HU.out).2.2, blk_cell HD5.out 0, blk_cell HD5.out 1, blk_cell HD5.out 2⟩ (fun hHeld => ?_)⟩
  clear hF5 hQ5 hP5 hK K
  refine norm_ (a' := ?_) ?_ ?_
  rotate_left
  ·show Act.put _ (some 68) _ = _
   simp only [Act.put, lS, lZ, lU, i64_w, i32_w]
   rfl
  refine pure_ (i := 10) (N := some 58) (v := ?_) (a' := ?_) #[true, true, true, true, true, true, true, true, true, true, true, false, false, false, false, false] rfl rfl (by kernel_rfl) (fun _ _ _ h => h) (Or.inl ⟨by rfl, ?_⟩) ?_ ?_
  rotate_left
  ·intro w'
   go_simp
   with_reducible rfl
  rotate_left
  ·simp only [Act.put, lS, lZ, lU, i64_w, i32_w]
   rfl
  refine pure_ (i := 11) (N := some 69) (v := ?_) (a' := ?_) #[true, true, true, true, true, true, true, true, true, true, true, true, false, false, false, false] rfl rfl (by kernel_rfl) (fun _ _ _ h => h) (Or.inl ⟨by rfl, ?_⟩) ?_ ?_
  rotate_left
  ·intro w'
   go_simp
   with_reducible rfl
  rotate_left
  ·simp only [Act.put, lS, lZ, lU, i64_w, i32_w]
   rfl
  refine pure_ (i := 12) (N := some 70) (v := ?_) (a' := ?_) #[true, true, true, true, true, true, true, true, true, true, true, true, true, false, false, false] rfl rfl (by kernel_rfl) (fun _ _ _ h => h) (Or.inl ⟨by rfl, ?_⟩) ?_ ?_
  rotate_left
  ·intro w'
   go_simp
   with_reducible rfl
  rotate_left
  ·simp only [Act.put, lS, lZ, lU, i64_w, i32_w]
   rfl
  refine pure_ (i := 13) (N := some 71) (v := ?_) (a' := ?_) #[true, true, true, true, true, true, true, true, true, true, true, true, true, true, false, false] rfl rfl (by kernel_rfl) (fun _ _ _ h => h) (Or.inl ⟨by rfl, ?_⟩) ?_ ?_
  rotate_left
  ·intro w'
   go_simp
   with_reducible rfl
  rotate_left
  ·simp only [Act.put, lS, lZ, lU, i64_w, i32_w]
   rfl
  refine last_ (i := 14) (N := none) #[true, true, true, true, true, true, true, true, true, true, true, true, true, true, true, false] rfl rfl (by kernel_rfl) (by decide) (fun K hK => ?_)
  refine skip_ (w1 := ?_) (by rfl) rfl ?_ ?_
  rotate_left
  ·go_simp
   rfl
  refine hK.out _ _ ?_
  clear hK K f0 f1 f2 g0 g1 g2
  refine pure_ (i := 15) (N := some 9) (v := ?_) (a' := ?_) #[true, true, true, true, true, true, true, true, true, true, true, true, true, true, true, true] rfl rfl (by kernel_rfl) (fun _ _ _ h => h) (Or.inl ⟨by rfl, ?_⟩) ?_ ?_
  rotate_left
  ·intro w'
   go_simp
   with_reducible rfl
  rotate_left
  ·simp only [Act.put, lS, lZ, lU, i64_w, i32_w]
   rfl
  refine done_ (by kernel_rfl) ?_
  go_upto_region 14 with fail
  have hcs := HQ5.out
  rcases hcs with ⟨her, heq⟩ | ⟨rfl, h5, rfl, rfl, rfl, rfl, rfl, hC5, hB5⟩
  ·have n5 : (er != 0) = true := by simpa using her
   have HE5 := AsM (And.intro her heq)
   clear her heq
   go_wp2
   go_ret3
   have hh : handTo (true, bx, bs) ((l).map RV.rs) j1 = (er, (l).map RV.rs) := by
    rw [handTo_at HU.out]
    simp only
    rw [← HE5.out.2, if_pos HE5.out.1]
   refine states_err ?_ HE5.out.1 (by exact (((HFV.out.drew.trans HF5.out (by simp)).setCell _ _ (.inr (by simp; omega))).setCell _ _ (.inr (by simp; omega))).setCell _ _ (.inr (by simp; omega)))
   have hr9 := HR2.out
   rw [HH1.out, HJ1.out, hh] at hr9
   unfold hand2 at hr9
   simp only [ne_eq, HE5.out.1, not_false_eq_true, if_true] at hr9
   try rw [if_neg HE5.out.1] at hr9
   rw [← hr9]
   try simp
  have HE5 := AsM h5
  have HIN := AsM (handed (b := ⟨true, A3, c3, bx, B3, d3, bs⟩) (UB := UB) (ud := ud) HO1.out (⟨HFV.out.drew.trans HF5.out (by simp), HF5.out.blk (blk_drew HIV.out.seg) (by simp), HA5.out, HIV.out.len, HIV.out.small⟩ : StInv w S (k + 1) code.length so _ W5) HU.out (HBV.out.fr ((Fr.refl V4 []).drew.trans HF5.out (by simp))) ⟨hbl1, hbl2⟩ hSw hC5 (fun ad e => by
   rcases hB5 with h9 | h9
   ·exact HBV.out.b ad (h9 ▸ e)
   ·have h7 := h9 ad e
    have h8 := blk_lt HAV.out.blk
    simp at h7
    omega))
  have HHT : Aside0 (handTo (true, bx, bs) ((l).map RV.rs) j1 = (0, ((l).map RV.rs).set j1 (true, bx, handRS u.has u.sl bs))) := ⟨by rw [handTo_at HU.out]; simp only; rw [HE5.out]; simp only [ne_eq, not_true_eq_false, if_false]⟩
  clear h5 hC5 hB5
  go_upto_region 16 with fail
  refine name_ (fun V => Aside0 (Fr w V []) ∧ Aside0 (V.heap[I]? = some (.cells #[.int .i64 x.f0, .int .i64 x.f1, .int .i64 x.f2] 113 (0, 0))) ∧ Aside0 (V.heap[D]? = some (.cells #[.bool true, .slice A3 bx.length c3, .slice B3 bs.length d3] 175 (0, 0))) ∧ Aside0 (StInv w S (k + 1) code.length so (l.set j1 ⟨true, A3, c3, bx, UB, ud, handRS u.has u.sl bs⟩) V) ∧ Aside0 (RV.Ok ⟨true, A3, c3, bx, B3, d3, bs⟩ V S)) ?phi ?_
  case phi =>
   have hfS : Fr W5 (((W5.setCell ⟨S, o1, none⟩ (.bool true)).setCell ⟨S, o1 + 1, none⟩ (.slice A3 bx.length c3)).setCell ⟨S, o1 + 2, none⟩ (.slice UB (handRS u.has u.sl bs).length ud)) [S] := by
    exact (((Fr.refl W5 [S]).setCell _ _ (.inl (by simp))).setCell _ _ (.inl (by simp))).setCell _ _ (.inl (by simp))
   exact ⟨⟨HIN.out.fr⟩, ⟨hfS.blk (HF5.out.blk (blk_drew HIV1.out) (by simp)) (by simp; omega)⟩, ⟨hfS.blk HD5.out (by simp; omega)⟩, HIN, ⟨(HBV.out.fr ((Fr.refl V4 []).drew.trans HF5.out (by simp))).frS hfS⟩⟩
  obtain ⟨l2, hl2⟩ : ∃ l2, l.set j1 ⟨true, A3, c3, bx, UB, ud, handRS u.has u.sl bs⟩ = l2 := ⟨_, rfl⟩
  rw [hl2]
  have HHT2 : Aside0 (hand1 x k (true, bx, bs) (l.map RV.rs) = (0, l2.map RV.rs)) := ⟨by rw [HH1.out, HJ1.out, HHT.out, ← hl2, List.map_set]; rfl⟩
  clear hl2 HH1 HHT HIN HQ5 HE5 HF5 HA5 HD5 HFV HDV HIV HBV HIV1 HGV HAV HHA HU e1 ea1 v0 v1 hHeld hS4 hI4
  rename_i _ _
  rintro V6 ⟨HFV, HIV1, HDV, HIV, HBV⟩
  obtain ⟨v0, v1⟩ := cc2 HIV1.out
  have hS4 := blk_lt HIV.out.arr.blk
  have hI4 := blk_lt HIV1.out
  by_cases c27 : x.f0 = 27
  case pos =>
   have n4z : (x.f0 == 27) = true := by simpa using c27
   obtain ⟨j2, hj2⟩ : ∃ j2, k + 1 + x.f1.toNat = j2 := ⟨_, rfl⟩
   have hj2l : j2 < code.length := by have := HWJ.out (.inr c27); omega
   have e2 : (k : Int) + 1 + x.f1 = (j2 : Int) := by omega
   have HJ2 := AsM hj2
   obtain ⟨o2, ho2⟩ : ∃ o, j2 * 3 = o := ⟨_, rfl⟩
   have ea2 : ad.add (j2 * 3) = ⟨S, o2, none⟩ := by rw [HAD.out, add_ad, ho2]
   have HO2 := AsM ho2
   clear ho2
   clear hj2
   have HC27 := AsM c27
   clear c27
   go_upto_region 18 with fail
   clear e2
   obtain ⟨u, hul⟩ : ∃ u, (l2)[j2]? = some u := ⟨_, List.getElem?_eq_getElem (by have := HIV.out.len; omega)⟩
   have HU := AsM hul
   clear hul
   have HAV := AsM HIV.out.arr
   have HHA := AsM (hand_at V6 S u ⟨true, A3, c3, bx, B3, d3, bs⟩ (HAV.out.ok u (List.mem_of_getElem? HU.out)) HBV.out (by simp only; omega) (by simp only; omega))
   refine start_ (n := 14) (S := fun w' => w'.cell? ⟨S, o2, none⟩ = some (.bool u.has) ∧ w'.cell? ⟨S, o2 + 1, none⟩ = some (.slice u.A u.xs.length u.c) ∧ w'.cell? ⟨S, o2 + 2, none⟩ = some (.slice u.B u.sl.length u.d) ∧ w'.cell? ⟨D, 0, none⟩ = some (.bool true) ∧ w'.cell? ⟨D, 1, none⟩ = some (.slice A3 bx.length c3) ∧ w'.cell? ⟨D, 2, none⟩ = some (.slice B3 bs.length d3)) (ds := [12]) #[false, false, false, false, false, false, false, false, false, false, false, false, false, false] (by kernel_rfl) rfl rfl ⟨(HAV.out.geto HO2.out HU.out).1, (HAV.out.geto HO2.out HU.out).2.1, (HAV.out.geto HO2.out HU.out).2.2, blk_cell HDV.out 0, blk_cell HDV.out 1, blk_cell HDV.out 2⟩ (fun hHeld => ?_)
   refine pure_ (i := 0) (N := some 90) (v := ?_) (a' := ?_) #[true, false, false, false, false, false, false, false, false, false, false, false, false, false] rfl rfl (by kernel_rfl) (fun _ _ _ h => h) (Or.inl ⟨by rfl, ?_⟩) ?_ ?_
   rotate_left
   ·intro w'
    go_simp
    with_reducible rfl
   rotate_left
   ·simp only [Act.put, lS, lZ, lU, i64_w, i32_w]
    rfl
   refine pure_ (i := 1) (N := some 91) (v := ?_) (a' := ?_) #[true, true, false, false, false, false, false, false, false, false, false, false, false, false] rfl rfl (by kernel_rfl) (fun _ _ _ h => h) (Or.inl ⟨by rfl, ?_⟩) ?_ ?_
   rotate_left
   ·intro w'
    go_simp
    with_reducible rfl
   rotate_left
   ·simp only [Act.put, lS, lZ, lU, i64_w, i32_w]
    rfl
   refine pure_ (i := 2) (N := some 92) (v := ?_) (a' := ?_) #[true, true, true, false, false, false, false, false, false, false, false, false, false, false] rfl rfl (by kernel_rfl) (fun _ _ _ h => h) (Or.inl ⟨by rfl, ?_⟩) ?_ ?_
   rotate_left
   ·intro w'
    go_simp
    with_reducible rfl
   rotate_left
   ·simp only [Act.put, lS, lZ, lU, i64_w, i32_w]
    rfl
   refine pure_ (i := 3) (N := some 93) (v := ?_) (a' := ?_) #[true, true, true, true, false, false, false, false, false, false, false, false, false, false] rfl rfl (by kernel_rfl) (fun _ _ _ h => h) (Or.inl ⟨by rfl, ?_⟩) ?_ ?_
   rotate_left
   ·intro w'
    go_simp
    with_reducible rfl
   rotate_left
   ·simp only [Act.put, lS, lZ, lU, i64_w, i32_w]
    rfl
   refine pure_ (i := 4) (N := some 94) (v := ?_) (a' := ?_) #[true, true, true, true, true, false, false, false, false, false, false, false, false, false] rfl rfl (by kernel_rfl) (fun _ _ _ h => h) (Or.inl ⟨by rfl, ?_⟩) ?_ ?_
   rotate_left
   ·intro w'
    go_simp
    with_reducible rfl
   rotate_left
   ·simp only [Act.put, lS, lZ, lU, i64_w, i32_w]
    rfl
   refine take_ (i := 5) (N := some 95) (v := ?_) (a' := ?_) #[true, true, true, true, true, true, false, false, false, false, false, false, false, false] rfl rfl (by kernel_rfl) (fun _ _ _ h => h) (Or.inl ⟨by rfl, ?_⟩) hHeld ?_ ?_
   rotate_left
   ·rintro w' ⟨s0, s1, s2, s3, s4, s5⟩
    go_simp
    with_reducible rfl
   rotate_left
   ·simp only [Act.put, lS, lZ, lU, i64_w, i32_w]
    rfl
   refine take_ (i := 6) (N := some 96) (v := ?_) (a' := ?_) #[true, true, true, true, true, true, true, false, false, false, false, false, false, false] rfl rfl (by kernel_rfl) (fun _ _ _ h => h) (Or.inl ⟨by rfl, ?_⟩) hHeld ?_ ?_
   rotate_left
   ·rintro w' ⟨s0, s1, s2, s3, s4, s5⟩
    go_simp
    with_reducible rfl
   rotate_left
   ·simp only [Act.put, lS, lZ, lU, i64_w, i32_w]
    rfl
   refine one_ (i := 7) (N := some 97) #[true, true, true, true, true, true, true, true, false, false, false, false, false, false] rfl rfl (by kernel_rfl) (by decide) (fun K hK => ?_)
   refine goes_ (f := 127) Tryz.func127 (by rfl) (by rfl) #[.agg #[.bool u.has, .slice u.A u.xs.length u.c, .slice u.B u.sl.length u.d], .agg #[.bool true, .slice A3 bx.length c3, .slice B3 bs.length d3]] (by rfl) rfl rfl (by first | (go_simp; done) | (go_simp; rfl) | rfl) ?_
   refine (HHA.out _ (FQ)).mono ?_
   rintro e W5 hP5
   obtain ⟨uh, UA, un, uc, UB, um, ud, er, rfl, hF5, hQ5⟩ := hand_any hP5
   have HF5 : Aside0 (Fr V6.drew W5 []) := ⟨hF5⟩
   have HQ5 := AsM hQ5
   have HA5 := AsM ((HAV.out.fr (Fr.refl V6 []).drew).fr hF5)
   have HD5 := AsM (hF5.blk (blk_drew HDV.out) (by simp))
   have f0 := blk_frozen HA5.out.blk o2
   have f1 := blk_frozen HA5.out.blk (o2 + 1)
   have f2 := blk_frozen HA5.out.blk (o2 + 2)
   have g0 := (HA5.out.geto HO2.out HU.out).1
   have g1 := (HA5.out.geto HO2.out HU.out).2.1
   have g2 := (HA5.out.geto HO2.out HU.out).2.2
   refine ⟨_, rfl, hK.out _ _ ⟨(HA5.out.geto HO2.out HU.out).1, (HA5.out.geto HO2.out HU.out).2.1, (HA5.out.geto HO2.out HU.out).2.2, blk_cell HD5.out 0, blk_cell HD5.out 1, blk_cell HD5.out 2⟩ (fun hHeld => ?_)⟩
   clear hF5 hQ5 hP5 hK K
   refine norm_ (a' := ?_) ?_ ?_
   rotate_left
   ·show Act.put _ (some 97) _ = _
    simp only [Act.put, lS, lZ, lU, i64_w, i32_w]
    rfl
   refine pure_ (i := 8) (N := some 89) (v := ?_) (a' := ?_) #[true, true, true, true, true, true, true, true, true, false, false, false, false, false] rfl rfl (by kernel_rfl) (fun _ _ _ h => h) (Or.inl ⟨by rfl, ?_⟩) ?_ ?_
   rotate_left
   ·intro w'
    go_simp
    with_reducible rfl
   rotate_left
   ·simp only [Act.put, lS, lZ, lU, i64_w, i32_w]
    rfl
   refine pure_ (i := 9) (N := some 98) (v := ?_) (a' := ?_) #[true, true, true, true, true, true, true, true, true, true, false, false, false, false] rfl rfl (by kernel_rfl) (fun _ _ _ h => h) (Or.inl ⟨by rfl, ?_⟩) ?_ ?_
   rotate_left
   ·intro w'
    go_simp
    with_reducible rfl
   rotate_left
   ·simp only [Act.put, lS, lZ, lU, i64_w, i32_w]
    rfl
   refine pure_ (i := 10) (N := some 99) (v := ?_) (a' := ?_) #[true, true, true, true, true, true, true, true, true, true, true, false, false, false] rfl rfl (by kernel_rfl) (fun _ _ _ h => h) (Or.inl ⟨by rfl, ?_⟩) ?_ ?_
   rotate_left
   ·intro w'
    go_simp
    with_reducible rfl
   rotate_left
   ·simp only [Act.put, lS, lZ, lU, i64_w, i32_w]
    rfl
   refine pure_ (i := 11) (N := some 100) (v := ?_) (a' := ?_) #[true, true, true, true, true, true, true, true, true, true, true, true, false, false] rfl rfl (by kernel_rfl) (fun _ _ _ h => h) (Or.inl ⟨by rfl, ?_⟩) ?_ ?_
   rotate_left
   ·intro w'
    go_simp
    with_reducible rfl
   rotate_left
   ·simp only [Act.put, lS, lZ, lU, i64_w, i32_w]
    rfl
   refine last_ (i := 12) (N := none) #[true, true, true, true, true, true, true, true, true, true, true, true, true, false] rfl rfl (by kernel_rfl) (by decide) (fun K hK => ?_)
   refine skip_ (w1 := ?_) (by rfl) rfl ?_ ?_
   rotate_left
   ·go_simp
    rfl
   refine hK.out _ _ ?_
   clear hK K f0 f1 f2 g0 g1 g2
   refine pure_ (i := 13) (N := some 9) (v := ?_) (a' := ?_) #[true, true, true, true, true, true, true, true, true, true, true, true, true, true] rfl rfl (by kernel_rfl) (fun _ _ _ h => h) (Or.inl ⟨by rfl, ?_⟩) ?_ ?_
   rotate_left
   ·intro w'
    go_simp
    with_reducible rfl
   rotate_left
   ·simp only [Act.put, lS, lZ, lU, i64_w, i32_w]
    rfl
   refine done_ (by kernel_rfl) ?_
   go_upto_region 19 with fail
   have hcs := HQ5.out
   rcases hcs with ⟨her, heq⟩ | ⟨rfl, h5, rfl, rfl, rfl, rfl, rfl, hC5, hB5⟩
   ·have n5 : (er != 0) = true := by simpa using her
    have HE5 := AsM (And.intro her heq)
    clear her heq
    go_wp2
    go_ret3
    have hh : handTo (true, bx, bs) ((l2).map RV.rs) j2 = (er, (l2).map RV.rs) := by
     rw [handTo_at HU.out]
     simp only
     rw [← HE5.out.2, if_pos HE5.out.1]
    refine states_err ?_ HE5.out.1 (by exact (((HFV.out.drew.trans HF5.out (by simp)).setCell _ _ (.inr (by simp; omega))).setCell _ _ (.inr (by simp; omega))).setCell _ _ (.inr (by simp; omega)))
    have hr9 := HR2.out
    rw [HHT2.out] at hr9
    unfold hand2 at hr9
    simp only [ne_eq, not_true_eq_false, if_false, if_pos (Or.inr HC27.out), HJ2.out, hh] at hr9
    try rw [if_neg HE5.out.1] at hr9
    rw [← hr9]
    try simp
   have HE5 := AsM h5
   have HIN := AsM (handed (b := ⟨true, A3, c3, bx, B3, d3, bs⟩) (UB := UB) (ud := ud) HO2.out (⟨HFV.out.drew.trans HF5.out (by simp), HF5.out.blk (blk_drew HIV.out.seg) (by simp), HA5.out, HIV.out.len, HIV.out.small⟩ : StInv w S (k + 1) code.length so _ W5) HU.out (HBV.out.fr ((Fr.refl V6 []).drew.trans HF5.out (by simp))) ⟨hbl1, hbl2⟩ hSw hC5 (fun ad e => by
    rcases hB5 with h9 | h9
    ·exact HBV.out.b ad (h9 ▸ e)
    ·have h7 := h9 ad e
     have h8 := blk_lt HAV.out.blk
     simp at h7
     omega))
   have HHT : Aside0 (handTo (true, bx, bs) ((l2).map RV.rs) j2 = (0, ((l2).map RV.rs).set j2 (true, bx, handRS u.has u.sl bs))) := ⟨by rw [handTo_at HU.out]; simp only; rw [HE5.out]; simp only [ne_eq, not_true_eq_false, if_false]⟩
   clear h5 hC5 hB5
   go_wp2
   go_roundg (code.length - (k + 1))
   case measure => have := HM.out; omega
   case rel => exact ⟨k + 1, _, by go_num, by omega, ⟨Nat.le_refl _⟩, ⟨HIN.out⟩, ⟨by
    have hr9 := HR2.out
    rw [HHT2.out] at hr9
    unfold hand2 at hr9
    simp only [ne_eq, not_true_eq_false, if_false, if_pos (Or.inr HC27.out), HJ2.out, HHT.out, if_true] at hr9
    rw [List.map_set]
    exact hr9⟩⟩
  case neg =>
   have n4z : (x.f0 == 27) = false := by simpa using c27
   have HC27 := AsM c27
   clear c27
   go_wp2
   go_roundg (code.length - (k + 1))
   case measure => have := HM.out; omega
   case rel => exact ⟨k + 1, _, by go_num, by omega, ⟨Nat.le_refl _⟩, ⟨HIV.out⟩, ⟨by
    have hr9 := HR2.out
    rw [HHT2.out] at hr9
    unfold hand2 at hr9
    have hno : ¬ (x.f0 = 26 ∨ x.f0 = 27) := fun h => h.elim (fun h => HC1.out (.inl h)) HC27.out
    simp only [ne_eq, not_true_eq_false, if_false, if_neg hno, if_true] at hr9
    exact hr9⟩⟩
end Go.Proofs.YtpoehkacfmljcaaGreatDoor.H
