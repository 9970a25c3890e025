import Derived.Test.YtdebllinaffceaaHandTilesA
namespace Go.Proofs.Ytdebllinaffceaa.M
open Go.RowKit Go.Proofs.YtdebllinaffceaaW.PrintWords Go.Proofs.YtdebllinaffceaaW.PrintLast Go.Proofs.YtdebllinaffceaaW.PrintMore
attribute [local go_sem] Oper.semAt_some
set_option linter.unusedVariables false
set_option linter.unusedSimpArgs false
set_option maxHeartbeats 4000000 in
set_option maxRecDepth 100000 in
theorem gone.calls (K : Nat) (bf bw bs bh bt : Nat) (f lim : Int) (A : Option Addr) (c : Nat) (l zs : List Int) (A2 : Option Addr) (c2 : Nat) (w : World) (hCap : Cap w bf bw bs bh bt f lim A c l) (hz : cal_walk.upto K l lim f = some zs)
    (hr2 : Kd.C (Kd.int .i64) w A2 zs.length zs) (hc2 : zs.length ≤ c2) (hsz : zs.length < 17592186044416) :
    Calls Try.prog 13 #[.func (.func 23) #[] #[.pointer (some ⟨bf, 0, none⟩), .pointer (some ⟨bw, 0, none⟩), .pointer (some ⟨bs, 0, none⟩), .pointer (some ⟨bh, 0, none⟩)], .slice A2 zs.length c2] w fun e w' => e = .returned (.bool true) ∧ Below w.heap.size w w' := by
  have HCAP := Aside0.mk hCap
  have HZ := Aside0.mk hz
  have HR2 := Aside0.mk hr2
  have HC2 := Aside0.mk hc2
  have HSZ := Aside0.mk hsz
  clear hCap hz hr2 hc2 hsz
  refine (callsIn_wide (n := 6)).1 ?_
  refine callsIn_of_wp_marks Try.func13 rfl trivial ?_ rfl
  simp only [Try.ntmps13, List.size_toArray, List.length_cons, List.length_nil, Nat.reduceAdd, Nat.reduceSub, Array.replicate_succ, Array.replicate_zero, List.push_toArray, List.append_toArray, List.nil_append, List.cons_append]
  gi_wp2
  have bW := ((Boxed.new w 27 (.slice A2 zs.length c2)).alloc (.cells #[.bool false] 4)).alloc (.cells #[.int .i64 0] 3)
  have bR := (Boxed.new (w.alloc (.cells #[.slice A2 zs.length c2] 27)) 4 (.bool false)).alloc (.cells #[.int .i64 0] 3)
  have bK := Boxed.new ((w.alloc (.cells #[.slice A2 zs.length c2] 27)).alloc (.cells #[.bool false] 4)) 3 (.int .i64 0)
  simp only [World.size_alloc] at bR bK
  have hB0 : Below w.heap.size w (((w.alloc (.cells #[.slice A2 zs.length c2] 27)).alloc (.cells #[.bool false] 4)).alloc (.cells #[.int .i64 0] 3)) := (((Below.refl _ w).alloc (Nat.le_refl _) _).alloc (by simp) _).alloc (by simp; omega) _
  obtain ⟨V4, hV4⟩ : ∃ V4, ((w.alloc (.cells #[.slice A2 zs.length c2] 27)).alloc (.cells #[.bool false] 4)).alloc (.cells #[.int .i64 0] 3) = V4 := ⟨_, rfl⟩
  have hV4s : V4.heap.size = w.heap.size + 3 := by rw [← hV4]; simp
  rw [hV4] at bW bR bK hB0 ⊢
  clear hV4
  refine wpIn_rangeFunc_ownF (α := Int) (encs := fun x => #[.int .i64 x]) (Kp := Below w.heap.size) (S := fun ys => ys = zs) (Sp := fun pre => pre <+: zs ∧ pre ≠ []) (N := zs.length) (w0 := V4) rfl (by omega) (gf := 23)
    (lb := #[.pointer (some ⟨bf, 0, none⟩), .pointer (some ⟨bw, 0, none⟩), .pointer (some ⟨bs, 0, none⟩), .pointer (some ⟨bh, 0, none⟩)]) rfl trivial (enters_of Try.func23 (by kernel_rfl) rfl)
    (HCAP.out.stops K zs HZ.out 5 (by omega) V4 hB0) belowK_t (belowK_b (by omega)) (Below.refl _ _) (fun _ => rfl)
    (fun pre V => ((Boxed V (w.heap.size + 1 + 1) 3 (.int .i64 (pre.length : Int)) ∧ Boxed V w.heap.size 27 (.slice A2 zs.length c2)) ∧ Boxed V (w.heap.size + 1) 4 (.bool false)) ∧ Below w.heap.size w V)
    (fun _ pre _ => ¬ pre <+: zs)
    (OwnFrom.and (OwnFrom.and (OwnFrom.and (Own.from (boxed_own _ _ (fun pre : List Int => .int .i64 (pre.length : Int))) _) (Own.from (boxed_own _ _ (fun pre : List Int => .slice A2 zs.length c2)) _)) (Own.from (boxed_own _ _ (fun pre : List Int => .bool false)) _)) (ownFrom_below (Nat.le_refl _) (by omega)))
    (fun _ _ _ _ _ hs _ _ => hs)
    ⟨⟨⟨bK, bW⟩, bR⟩, hB0⟩
    (fun x => { tmps := #[.func (.func 23) #[] #[.pointer (some ⟨bf, 0, none⟩), .pointer (some ⟨bw, 0, none⟩), .pointer (some ⟨bs, 0, none⟩), .pointer (some ⟨bh, 0, none⟩)], .slice A2 zs.length c2, undef, .pointer (some ⟨w.heap.size, 0, none⟩), .pointer (some ⟨w.heap.size + 1, 0, none⟩), .pointer (some ⟨w.heap.size + 1 + 1, 0, none⟩), .int .i64 x, .func (.func 23) #[] #[.pointer (some ⟨bf, 0, none⟩), .pointer (some ⟨bw, 0, none⟩), .pointer (some ⟨bs, 0, none⟩), .pointer (some ⟨bh, 0, none⟩)], .int .i64 x, undef, undef, undef, undef, undef, undef, undef, undef, undef, undef, undef, undef, undef, undef, undef, undef, undef, undef], defers := [] }) ?assign3 ?body3 ?done3 ?stop3
  case assign3 =>
    intro yl x V Kc hKc
    gi_wp2
    exact hKc
  case stop3 =>
    rintro D c pre V _ ⟨hp, _⟩ hn _
    exact absurd hp hn
  case body3 =>
    rintro yl pre x V ⟨⟨⟨hk, hv⟩, hr⟩, hB⟩ hlt
    obtain ⟨ad, hea, hcx⟩ := Kd.at_int (Kd.C_below HR2.out hB) (pre.length : Int) (by omega) (by omega)
    cases hea
    simp only [Int.toNat_natCast] at hcx
    have ck := hk.cell
    have fk := hk.frozen
    have cv := hv.cell
    have cr := hr.cell
    have fr := hr.frozen
    have hz : zs[pre.length]? = some (rd zs (pre.length : Int)) := by unfold rd; rw [Int.toNat_natCast, List.getD_eq_getElem?_getD, List.getElem?_eq_getElem hlt]; rfl
    obtain ⟨z, hzz⟩ : ∃ z, rd zs (pre.length : Int) = z := ⟨_, rfl⟩
    rw [hzz] at hcx hz
    have d1 : ¬ ((pre.length : Int) ≥ (zs.length : Int)) := by omega
    by_cases hzx : z = x
    case' neg => have hbq : (z == x) = false := beq_eq_false_iff_ne.mpr hzx
    case pos =>
      subst hzx
      gi_wp2
      have KO := KeepsOthers.setCell V ⟨w.heap.size + 1 + 1, 0, none⟩ (.int .i64 (wrap64 ((pre.length : Int) + 1)))
      have hw : wrap64 ((pre.length : Int) + 1) = ((pre ++ [z]).length : Int) := by have := HSZ.out; simp only [List.length_append, List.length_cons, List.length_nil] at this ⊢; unfold wrap64; omega
      refine ⟨KO, (Below.refl _ V).setCell (p := ⟨w.heap.size + 1 + 1, 0, none⟩) (by simp; omega) _, ⟨⟨⟨?_, hv.other (by omega) _⟩, hr.other (by omega) _⟩, hB.setCell (p := ⟨w.heap.size + 1 + 1, 0, none⟩) (by simp; omega) _⟩⟩
      rw [hw]; exact hk.set _
    case neg =>
      gi_wp2
      exact ⟨KeepsOthers.setCell _ _ _, fun hp => by have := prefix_get hp; rw [hz] at this; exact hzx (Option.some.inj this)⟩
  case done3 =>
    rintro D3 zs' V5 hD3 hzs ⟨⟨⟨hk, hv⟩, hr⟩, hB⟩ hX3
    have hzs' := hzs.symm
    subst hzs'
    have ck := hk.cell
    have cv := hv.cell
    have cr := hr.cell
    have fr := hr.frozen
    gi_wp2
    have kc := World.cell?_setCell_same' V5 ⟨w.heap.size + 1, 0, none⟩ (.bool true) (by rw [cr]; rfl)
    have KO := KeepsOthers.setCell V5 ⟨w.heap.size + 1, 0, none⟩ (.bool true)
    have k3 := KO.same D3 _ hX3 rfl
    have hbl := hB.setCell (p := ⟨w.heap.size + 1, 0, none⟩) (by simp) (.bool true)
    refine ⟨by simp, .inl ⟨_, _, rfl, run_takeDeferred k3, ?_⟩⟩
    have c1 := cell_kept kc (grownBy_putObj' _ D3 (.deferred none)) (fun r e => by cases e; exact ⟨_, k3, rfl⟩)
    have b1 := hbl.trans (belowK_b (n₀ := w.heap.size) (w := w) (Nat.le_refl _) _ D3 _ (.deferred none) (by omega) k3 rfl rfl)
    refine ⟨.bool true, ?_, rfl, b1⟩
    simp [results, Try.f13, go_sem, c1]
end Go.Proofs.Ytdebllinaffceaa.M
