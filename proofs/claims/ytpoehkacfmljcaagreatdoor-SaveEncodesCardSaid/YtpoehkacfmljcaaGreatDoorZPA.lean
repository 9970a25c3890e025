/- The plain law of the verifier: the program's look and the reference's States come to one. -/
import Derived.Test.YtpoehkacfmljcaaGreatDoorZV
import Derived.Test.YtpoehkacfmljcaaGreatDoorZRM
import Derived.Test.YtpoehkacfmljcaaGreatDoorZHK
import Derived.Test.YtpoehkacfmljcaaGreatDoorZUT
set_option maxHeartbeats 4000000
set_option maxRecDepth 100000
namespace Go.Proofs.YtpoehkacfmljcaaGreatDoor.H
open Go.RowKit Go.Proofs.YtpoehkacfmljcaaGreatDoorW.PrintWords Go.Proofs.YtpoehkacfmljcaaGreatDoorW.PrintLast Go.Proofs.YtpoehkacfmljcaaGreatDoorW.PrintMore
open Go.ChangeMaps (setBlock)
attribute [local go_sem] max2_int min2_int max_two min_two max_three min_three max_four min_four
set_option linter.unusedVariables false
set_option linter.unusedSimpArgs false
open Go.Proofs.YtpoehkacfmljcaaGreatDoor.M
def enc (b : Bool) : Int := if b then 2 else 1
theorem enc_inj {a b : Bool} : enc a = enc b ↔ a = b := by cases a <;> cases b <;> decide
theorem enc_ne (b : Bool) : enc b ≠ 0 := by cases b <;> decide
theorem map_enc {xs ys : List Bool} : xs.map enc = ys.map enc ↔ xs = ys := by
 induction xs generalizing ys with
 | nil => cases ys <;> simp
 | cons x xs ih => cases ys with
  | nil => simp
  | cons y ys => simp [ih, enc_inj]
def SlOk (sl : List KS) : Prop := (sl.map (·.f0)).Nodup ∧ ∀ x ∈ sl, x.f1 = 1 ∨ x.f1 = 2
def slA (sl : List KS) (k : Int) : Option Bool := if slotL sl k = 0 then none else some (decide (slotL sl k = 2))
theorem slotL_rng : ∀ (sl : List KS) (h : ∀ x ∈ sl, x.f1 = 1 ∨ x.f1 = 2) (k : Int), slotL sl k = 0 ∨ slotL sl k = 1 ∨ slotL sl k = 2
 | [], _, _ => Or.inl rfl
 | x :: l, h, k => by
  unfold slotL
  split
  ·exact Or.inr (h x (by simp))
  ·exact slotL_rng l (fun y hy => h y (by simp [hy])) k
theorem slotL_no : ∀ (sl : List KS) (k : Int), (∀ x ∈ sl, x.f0 ≠ k) → slotL sl k = 0
 | [], _, _ => rfl
 | x :: l, k, h => by
  unfold slotL
  rw [if_neg (h x (by simp))]
  exact slotL_no l k (fun y hy => h y (by simp [hy]))
theorem slotL_keep (slT : List KS) : ∀ (sl : List KS) (k : Int), (sl.map (·.f0)).Nodup → slotL (sl.filter (keepB slT)) k = if slotL slT k = slotL sl k then slotL sl k else 0
 | [], k, _ => by show (0 : Int) = _; split <;> rfl
 | x :: l, k, h => by
  rw [List.map_cons, List.nodup_cons] at h
  have ih := slotL_keep slT l k h.2
  by_cases hk : x.f0 = k
  ·have hno : slotL (l.filter (keepB slT)) k = 0 := slotL_no _ _ (fun y hy e => h.1 (by rw [hk, ← e]; exact List.mem_map_of_mem (List.mem_filter.1 hy).1))
   have e1 : slotL (x :: l) k = x.f1 := by simp [slotL, hk]
   rw [e1]
   by_cases hp : keepB slT x = true
   ·have hp2 : slotL slT k = x.f1 := by unfold keepB at hp; rw [hk] at hp; simpa using hp
    rw [List.filter_cons_of_pos hp, if_pos hp2]
    simp [slotL, hk]
   ·have hp2 : ¬ slotL slT k = x.f1 := by unfold keepB at hp; rw [hk] at hp; simpa using hp
    rw [List.filter_cons_of_neg hp, if_neg hp2, hno]
  ·have e1 : slotL (x :: l) k = slotL l k := by simp [slotL, hk]
   rw [e1, ← ih]
   by_cases hp : keepB slT x = true
   ·rw [List.filter_cons_of_pos hp]; simp [slotL, hk]
   ·rw [List.filter_cons_of_neg hp]
theorem slotL_without (n : Int) : ∀ (sl : List KS) (k : Int), slotL (withoutL sl n) k = if k = n then 0 else slotL sl k
 | [], k => by simp [withoutL, slotL]
 | x :: l, k => by
  have ih := slotL_without n l k
  unfold withoutL at ih ⊢
  by_cases hx : x.f0 = n
  ·rw [List.filter_cons_of_neg (by simp [hx]), ih]
   by_cases hk : k = n
   ·simp [hk]
   ·have h2 : ¬ x.f0 = k := by omega
    simp [hk, slotL, h2]
  ·rw [List.filter_cons_of_pos (by simp [hx])]
   by_cases hk : x.f0 = k
   ·have h2 : ¬ k = n := by omega
    simp [slotL, hk, h2]
   ·have e : slotL (x :: List.filter (fun x => !decide (x.f0 = n)) l) k = slotL (List.filter (fun x => !decide (x.f0 = n)) l) k := by simp [slotL, hk]
    rw [e, ih]
    simp [slotL, hk]
theorem slotL_snoc (y : KS) : ∀ (l : List KS) (k : Int), (∀ x ∈ l, x.f0 ≠ y.f0) → slotL (l ++ [y]) k = if k = y.f0 then y.f1 else slotL l k
 | [], k, _ => by
  by_cases h : k = y.f0
  ·simp [slotL, h]
  ·have h2 : ¬ y.f0 = k := fun e => h e.symm
   simp [slotL, h, h2]
 | x :: l, k, h => by
  have ih := slotL_snoc y l k (fun z hz => h z (by simp [hz]))
  have hx := h x (by simp)
  rw [List.cons_append]
  simp only [slotL]
  rw [ih]
  by_cases hk : x.f0 = k
  ·have h2 : ¬ k = y.f0 := by omega
   simp [hk, h2]
  ·simp [hk]
theorem slOk_nil : SlOk [] := ⟨by simp, by simp⟩
theorem slOk_filter {sl : List KS} (p : KS → Bool) (h : SlOk sl) : SlOk (sl.filter p) :=
 ⟨List.Nodup.sublist (List.Sublist.map _ List.filter_sublist) h.1, fun x hx => h.2 x (List.mem_filter.1 hx).1⟩
theorem without_no (sl : List KS) (n : Int) : ∀ x ∈ withoutL sl n, x.f0 ≠ n := fun x hx => by
 unfold withoutL at hx
 have := (List.mem_filter.1 hx).2
 simpa using this
theorem slOk_snoc {sl : List KS} {n v : Int} (h : SlOk sl) (hv : v = 1 ∨ v = 2) : SlOk (withoutL sl n ++ [⟨n, v⟩]) := by
 have h1 : SlOk (withoutL sl n) := slOk_filter _ h
 refine ⟨?_, fun x hx => ?_⟩
 ·rw [List.map_append, List.nodup_append]
  refine ⟨h1.1, by simp, fun a ha b hb => ?_⟩
  obtain ⟨x, hx, rfl⟩ := List.mem_map.1 ha
  obtain rfl : b = n := by simpa using hb
  exact without_no sl b x hx
 ·rcases List.mem_append.1 hx with hx | hx
  ·exact h1.2 x hx
  ·obtain rfl : x = ⟨n, v⟩ := by simpa using hx
   exact hv
def RelS : Option AS → RS → Prop
 | none, r => r.1 = false
 | some a, r => r.1 = true ∧ r.2.1 = a.1.map enc ∧ SlOk r.2.2 ∧ ∀ k, a.2 k = slA r.2.2 k
structure RelL (n k : Nat) (lA : List (Option AS)) (lR : List RS) : Prop where
 la : lA.length = n
 lr : lR.length = n
 at_ : ∀ j, k ≤ j → j < n → RelS (lA.getD j none) (lR.getD j (false, [], []))
theorem meetK_slA {slT sl : List KS} (hT : SlOk slT) (h : SlOk sl) (k : Int) : meetK (slA slT) (slA sl) k = slA (sl.filter (keepB slT)) k := by
 unfold meetK slA
 rw [slotL_keep slT sl k h.1]
 have h1 := slotL_rng slT hT.2 k
 have h2 := slotL_rng sl h.2 k
 rcases h1 with h1 | h1 | h1 <;> rcases h2 with h2 | h2 | h2 <;> simp [h1, h2]
theorem relL_set {n k : Nat} {lA : List (Option AS)} {lR : List RS} (h : RelL n k lA lR) {t : Nat} (ht : t < n) {a : Option AS} {r : RS} (hr : RelS a r) : RelL n k (lA.set t a) (lR.set t r) :=
 ⟨by rw [List.length_set, h.la], by rw [List.length_set, h.lr], fun j h1 h2 => by
  by_cases hj : t = j
  ·subst hj
   rw [List.getD_eq_getElem?_getD, List.getD_eq_getElem?_getD, List.getElem?_set_self (by rw [h.la]; exact ht), List.getElem?_set_self (by rw [h.lr]; exact ht)]
   exact hr
  ·rw [List.getD_eq_getElem?_getD, List.getD_eq_getElem?_getD, List.getElem?_set_ne hj, List.getElem?_set_ne hj, ← List.getD_eq_getElem?_getD, ← List.getD_eq_getElem?_getD]
   exact h.at_ j h1 h2⟩
theorem hand_one {n k : Nat} {b : AS} {r : RS} (hb : RelS (some b) r) {lA : List (Option AS)} {lR : List RS} (hL : RelL n k lA lR) {t : Nat} (ht : k ≤ t) (htn : t < n) : (handStep b lA (t : Int)).1 = (handTo r lR t).1 ∧ ((handTo r lR t).1 = 0 → RelL n k (handStep b lA t).2 (handTo r lR t).2) := by
 have hrel := hL.at_ t ht htn
 have hget : lA[t]? = some (lA.getD t none) := by rw [List.getD_eq_getElem?_getD, List.getElem?_eq_getElem (by rw [hL.la]; exact htn)]; rfl
 obtain ⟨hb1, hb2, hb3, hb4⟩ := hb
 unfold handStep handTo
 rw [Int.toNat_natCast, hget]
 cases hA : lA.getD t none with
 | none =>
  rw [hA] at hrel
  have h1 : (lR.getD t (false, [], [])).1 = false := hrel
  simp only
  rw [h1, if_neg (by simp [handRE])]
  refine ⟨rfl, fun _ => relL_set hL htn ?_⟩
  simp only [handRS, if_true]
  exact ⟨rfl, hb2, hb3, hb4⟩
 | some a =>
  rw [hA] at hrel
  obtain ⟨h1, h2, h3, h4⟩ := hrel
  simp only
  have he : meetE a.1 b.1 = handRE (lR.getD t (false, [], [])).1 (lR.getD t (false, [], [])).2.1 r.2.1 := by
   rw [h1, h2, hb2]
   unfold meetE handRE
   by_cases hl : a.1.length = b.1.length
   ·by_cases hx : a.1 = b.1
    ·simp [hx]
    ·have hx2 : ¬ a.1.map enc = b.1.map enc := fun e => hx (map_enc.1 e)
     simp [hl, hx, hx2]
   ·simp [hl]
  rw [← he]
  by_cases h0 : meetE a.1 b.1 = 0
  ·rw [if_pos h0, if_neg (by simp [h0])]
   refine ⟨rfl, fun _ => relL_set hL htn ?_⟩
   have hab : a.1 = b.1 := by
    unfold meetE at h0
    split at h0
    ·exact absurd h0 (by decide)
    ·split at h0
     ·exact absurd h0 (by decide)
     ·rename_i hx; exact Decidable.not_not.1 hx
   refine ⟨rfl, by simp only; rw [hb2, hab], ?_, fun k => ?_⟩
   ·simp only [handRS, h1]
    exact slOk_filter _ hb3
   ·simp only [handRS, h1]
    rw [if_neg (by simp), ← meetK_slA h3 hb3]
    unfold meetK
    rw [h4, hb4]
  ·rw [if_neg h0, if_pos h0]
   exact ⟨rfl, fun h => absurd h h0⟩
theorem relL_mono {n k k' : Nat} {lA : List (Option AS)} {lR : List RS} (h : RelL n k lA lR) (hk : k ≤ k') : RelL n k' lA lR := ⟨h.la, h.lr, fun j h1 h2 => h.at_ j (by omega) h2⟩
theorem handAll_one (b : AS) (l : List (Option AS)) (t : Int) : handAll b l [t] = handStep b l t := by
 simp only [handAll]
 split
 ·rename_i h; rw [← h]
 ·rfl
theorem hand_places {n k : Nat} {b : AS} {r : RS} (hb : RelS (some b) r) {lA : List (Option AS)} {lR : List RS} (hL : RelL n (k + 1) lA lR) {x : S113} (hx : InstrOk x) (hk : k < n) (he : x.f0 = 0 ↔ k + 1 = n) (hp : (placesL x k).any (fun t => decide ((n : Int) ≤ t)) = false) :
  (handAll b lA (placesL x k)).1 = (hand2 x k r (hand1 x k r lR)).1 ∧ ((hand2 x k r (hand1 x k r lR)).1 = 0 → RelL n (k + 1) (handAll b lA (placesL x k)).2 (hand2 x k r (hand1 x k r lR)).2) := by
 obtain ⟨_, _, hA, _⟩ := hx
 have e1 : ((k : Int) + 1) = ((k + 1 : Nat) : Int) := by omega
 have e2 : ((k : Int) + 1 + x.f1) = ((k + 1 + x.f1.toNat : Nat) : Int) := by omega
 by_cases h0 : x.f0 = 0
 ·simp only [placesL, hand1, hand2, h0, handAll]
  simp
  exact ⟨rfl, hL⟩
 by_cases h26 : x.f0 = 26
 ·have hp2 : placesL x k = [((k + 1 + x.f1.toNat : Nat) : Int)] := by rw [← e2]; simp [placesL, h26]
  rw [hp2] at hp ⊢
  rw [handAll_one]
  have e3 : hand2 x k r (hand1 x k r lR) = handTo r lR (k + 1 + x.f1.toNat) := by simp [hand2, hand1, h26]
  rw [e3]
  have hlt : k + 1 + x.f1.toNat < n := by simp only [List.any_cons, List.any_nil, Bool.or_false, decide_eq_false_iff_not] at hp; omega
  exact hand_one hb hL (by omega) hlt
 have hk1 : k + 1 < n := by omega
 have h1 := hand_one hb hL (t := k + 1) (by omega) hk1
 have e4 : hand1 x k r lR = handTo r lR (k + 1) := by simp [hand1, h26, h0]
 rw [e4]
 by_cases h27 : x.f0 = 27
 ·have hp2 : placesL x k = [((k + 1 : Nat) : Int), ((k + 1 + x.f1.toNat : Nat) : Int)] := by rw [← e2, ← e1]; simp [placesL, h27]
  rw [hp2] at hp ⊢
  have hlt : k + 1 + x.f1.toNat < n := by simp only [List.any_cons, List.any_nil, Bool.or_false, Bool.or_eq_false_iff, decide_eq_false_iff_not] at hp; omega
  have e5 : handAll b lA [((k + 1 : Nat) : Int), ((k + 1 + x.f1.toNat : Nat) : Int)] = if (handStep b lA ((k + 1 : Nat) : Int)).1 = 0 then handAll b (handStep b lA ((k + 1 : Nat) : Int)).2 [((k + 1 + x.f1.toNat : Nat) : Int)] else handStep b lA ((k + 1 : Nat) : Int) := rfl
  rw [e5, h1.1]
  unfold hand2
  by_cases hz : (handTo r lR (k + 1)).1 = 0
  ·rw [if_pos hz, if_neg (by simp [hz]), if_pos (Or.inr h27), handAll_one]
   exact hand_one hb (h1.2 hz) (by omega) hlt
  ·rw [if_neg hz, if_pos hz]
   exact ⟨h1.1, fun h => absurd h hz⟩
 ·have hp2 : placesL x k = [((k + 1 : Nat) : Int)] := by rw [← e1]; simp [placesL, h0, h26, h27]
  rw [hp2, handAll_one]
  have e6 : hand2 x k r (handTo r lR (k + 1)) = handTo r lR (k + 1) := by
   unfold hand2
   split
   ·rfl
   ·rw [if_neg (by omega)]
  rw [e6]
  exact h1
def wantI : Option Bool → Int
 | some b => enc b
 | none => 0
theorem takes_want : ∀ i : Fin 29, takesL ((i : Nat) : Int) = List.replicate (kT ((i : Nat) : Int)) (wantI (look wantsEs ((i : Nat) : Int))) := by decide
theorem takes_op {op : Int} (h0 : 0 ≤ op) (h1 : op < 29) : takesL op = List.replicate (kT op) (wantI (look wantsEs op)) := by
 have := takes_want ⟨op.toNat, by omega⟩
 have e : ((op.toNat : Nat) : Int) = op := by omega
 simp only [e] at this
 exact this
theorem sortBad_want (want : Option Bool) (t : Nat) (bs : List Bool) (ht : t ≤ bs.length) : sortBad (List.replicate t (wantI want)) (bs.map enc) = wrongOf want (bs.drop (bs.length - t)) := by
 cases want with
 | none =>
  unfold sortBad wrongOf
  rw [List.any_eq_false]
  intro j hj
  have hj2 : j < t := by simpa using hj
  simp [badAt, wantI, List.getD_eq_getElem?_getD, List.getElem?_replicate, hj2]
 | some b =>
  unfold sortBad wrongOf
  rw [Bool.eq_iff_iff, List.any_eq_true, List.any_eq_true]
  constructor
  ·rintro ⟨j, hj, hb⟩
   have hj2 : j < t := by simpa using hj
   have hl : bs.length - t + j < bs.length := by omega
   refine ⟨bs[bs.length - t + j], List.mem_iff_getElem?.2 ⟨j, by rw [List.getElem?_drop, List.getElem?_eq_getElem hl]⟩, ?_⟩
   have h2 : ¬ enc bs[bs.length - t + j] = enc b := by
    simpa [badAt, wantI, List.getD_eq_getElem?_getD, List.getElem?_replicate, hj2, enc_ne, List.getElem?_eq_getElem hl] using hb
   rw [enc_inj] at h2
   simpa using h2
  ·rintro ⟨y, hy, hyb⟩
   obtain ⟨j, hj⟩ := List.mem_iff_getElem?.1 hy
   rw [List.getElem?_drop] at hj
   obtain ⟨hl, hv⟩ := List.getElem?_eq_some_iff.1 hj
   refine ⟨j, by simp; omega, ?_⟩
   have hj2 : j < t := by omega
   have h2 : ¬ enc bs[bs.length - t + j] = enc b := by rw [enc_inj, hv]; simpa using hyb
   simpa [badAt, wantI, List.getD_eq_getElem?_getD, List.getElem?_replicate, hj2, enc_ne, List.getElem?_eq_getElem hl] using h2
theorem slA_none {sl : List KS} {A : Int} : slA sl A = none ↔ slotL sl A = 0 := by
 unfold slA; split <;> simp [*]
theorem wrong_rel {a : AS} {r : RS} (h : RelS (some a) r) {op A B day : Int} {ak n : Nat} (h0 : 0 ≤ op) (h1 : op < 29) :
  wrongP r.1 r.2.1 r.2.2 op A B day ak n = if applyE (look wantsEs op) (kT op) op A B day a.1 a.2 ≠ 0 then applyE (look wantsEs op) (kT op) op A B day a.1 a.2 else if (op = 26 ∨ op = 27) ∧ (n : Int) ≤ ak + 1 + A then 141 else 0 := by
 obtain ⟨hr1, hr2, hr3, hr4⟩ := h
 unfold wrongP applyE
 rw [hr1, hr2, takes_op h0 h1, List.length_replicate, List.length_map]
 rw [if_neg (by simp)]
 by_cases c1 : a.1.length < kT op ∨ (op = 0 ∧ 0 < a.1.length)
 ·rw [if_pos c1, if_pos c1, if_pos (by decide)]
 rw [if_neg c1, if_neg c1, sortBad_want _ _ _ (by omega)]
 by_cases c2 : wrongOf (look wantsEs op) (a.1.drop (a.1.length - kT op)) = true
 ·rw [if_pos c2, if_pos c2, if_pos (by decide)]
 rw [if_neg c2, if_neg c2]
 have h3 : (a.2 A = none) = (slotL r.2.2 A = 0) := by rw [hr4]; exact propext slA_none
 simp only [h3]
 by_cases c3 : op = 7 ∧ slotL r.2.2 A = 0
 ·rw [if_pos c3, if_pos c3, if_pos (by decide)]
 rw [if_neg c3, if_neg c3]
 by_cases c4 : op = 3 ∧ day < B
 ·rw [if_pos c4, if_pos c4, if_pos (by decide)]
 rw [if_neg c4, if_neg c4]
 exact (if_neg (show ¬ ((0 : Int) ≠ 0) by simp)).symm
theorem kP_ops : ∀ i : Fin 29, (kP ((i : Nat) : Int) ≤ 1) ∧ (((i : Nat) = 2 ∨ (i : Nat) = 25) → kP ((i : Nat) : Int) = 1) ∧ ((i : Nat) = 6 → kT ((i : Nat) : Int) = 1) := by decide
theorem applyE_zero {want : Option Bool} {t : Nat} {op A B day : Int} {xs : List Bool} {s : Int → Option Bool} (h : applyE want t op A B day xs s = 0) : t ≤ xs.length ∧ (op = 7 → s A ≠ none) := by
 unfold applyE at h
 split at h
 ·exact absurd h (by decide)
 rename_i c1
 split at h
 ·exact absurd h (by decide)
 split at h
 ·exact absurd h (by decide)
 rename_i c3
 exact ⟨by omega, fun h7 hn => c3 ⟨h7, hn⟩⟩
theorem enc_slot {sl : List KS} (h : SlOk sl) {A : Int} (hn : slA sl A ≠ none) : enc ((slA sl A).getD false) = slotL sl A := by
 have hr := slotL_rng sl h.2 A
 unfold slA at hn ⊢
 rcases hr with hr | hr | hr
 ·exact absurd (by rw [if_pos hr]) hn
 ·rw [hr]; decide
 ·rw [hr]; decide
theorem after_rel {a : AS} {r : RS} (h : RelS (some a) r) {x : S113} {B day : Int} (h0 : 0 ≤ x.f0) (h1 : x.f0 < 29) (he : applyE (look wantsEs x.f0) (kT x.f0) x.f0 x.f1 B day a.1 a.2 = 0) :
  RelS (some (applyX (kT x.f0) (kP x.f0) x.f0 x.f1 a.1 a.2, applyK (kT x.f0) x.f0 x.f1 a.1 a.2)) (afterR x r) := by
 obtain ⟨hr1, hr2, hr3, hr4⟩ := h
 obtain ⟨ht, h7⟩ := applyE_zero he
 have hlen : (takesL x.f0).length = kT x.f0 := by rw [takes_op h0 h1, List.length_replicate]
 have hko := kP_ops ⟨x.f0.toNat, by omega⟩
 have e : ((x.f0.toNat : Nat) : Int) = x.f0 := by omega
 simp only [e] at hko
 obtain ⟨k1, k2, k6⟩ := hko
 have hfun : a.2 = slA r.2.2 := funext hr4
 have hgd : x.f0 = 6 → (a.1.map enc).getD (a.1.length - kT x.f0) 0 = enc ((a.1.drop (a.1.length - kT x.f0)).headD false) := fun h6 => by
  have hl : a.1.length - kT x.f0 < a.1.length := by have := k6 (by omega); omega
  rw [List.getD_eq_getElem?_getD, List.getElem?_map, List.getElem?_eq_getElem hl, List.drop_eq_getElem_cons hl]
  rfl
 refine ⟨rfl, ?_, ?_, fun k => ?_⟩
 ·simp only [afterR, behindX, applyX]
  rw [hr2, hlen, List.length_map, List.map_append, List.map_take]
  congr 1
  by_cases c6 : x.f0 = 6
  ·rw [if_pos c6, if_neg (by omega), if_pos c6, hgd c6]
   rfl
  rw [if_neg c6]
  by_cases c7 : x.f0 = 7
  ·rw [if_pos c7, if_pos c7, hfun, List.map_singleton, enc_slot hr3 (by rw [← hfun]; exact h7 c7)]
  rw [if_neg c7, if_neg c7, if_neg c6, List.map_replicate]
  by_cases c2 : x.f0 = 2 ∨ x.f0 = 25
  ·have hg : givesB x.f0 = true := by unfold givesB; simp; omega
   rw [if_pos c2, k2 (by omega), hg]
   rfl
  rw [if_neg c2]
  have hg : enc (givesB x.f0) = if 19 ≤ x.f0 ∧ x.f0 ≤ 24 then 2 else 1 := by
   unfold givesB
   by_cases c9 : 19 ≤ x.f0 ∧ x.f0 ≤ 24
   ·rw [if_pos c9, decide_eq_true (by omega)]; rfl
   ·rw [if_neg c9, decide_eq_false (by omega)]; rfl
  rw [hg]
  by_cases cp : 0 < kP x.f0
  ·rw [if_pos cp, show kP x.f0 = 1 by omega]; rfl
  ·rw [if_neg cp, show kP x.f0 = 0 by omega]; rfl
 ·simp only [afterR, behindS]
  split
  ·rename_i c6
   refine slOk_snoc hr3 ?_
   rw [hr2, hlen, List.length_map, hgd c6]
   unfold enc; split <;> simp
  ·exact hr3
 ·simp only [afterR, behindS, applyK]
  by_cases c6 : x.f0 = 6
  ·rw [if_pos c6, if_pos c6, hr2, hlen, List.length_map, hgd c6]
   unfold slA
   rw [slotL_snoc ⟨x.f1, enc ((List.drop (a.1.length - kT x.f0) a.1).headD false)⟩ _ _ (without_no _ _), slotL_without]
   simp only
   by_cases hk : k = x.f1
   ·rw [if_pos hk, if_pos hk, if_neg (enc_ne _)]
    cases (List.drop (a.1.length - kT x.f0) a.1).headD false <;> rfl
   ·rw [if_neg hk, if_neg hk, if_neg hk, hfun]
    rfl
  ·rw [if_neg c6, if_neg c6]
   exact hr4 k
theorem places_any {x : S113} (hx : InstrOk x) {k n : Nat} (hk : k < n) (he : x.f0 = 0 ↔ k + 1 = n) : (placesL x k).any (fun t => decide ((n : Int) ≤ t)) = decide ((x.f0 = 26 ∨ x.f0 = 27) ∧ (n : Int) ≤ k + 1 + x.f1) := by
 obtain ⟨_, _, hA, _⟩ := hx
 unfold placesL
 by_cases h0 : x.f0 = 0
 ·simp [h0]
 by_cases h26 : x.f0 = 26
 ·simp [h26]
 have h1 : ¬ (n : Int) ≤ k + 1 := by omega
 by_cases h27 : x.f0 = 27
 ·simp [h27, h1]
 ·simp [h0, h26, h27, h1]
theorem step_rel {code : List S113} {day : Int} {k : Nat} {lA : List (Option AS)} {lR : List RS} {acc : Acc} (hk : k < code.length) (hx : InstrOk (code.getD k z113)) (he : (code.getD k z113).f0 = 0 ↔ k + 1 = code.length) (hL : RelL code.length k lA lR) :
  (lookStep code day k (lA, acc)).1 = (refStep code day k lR).1 ∧ ((refStep code day k lR).1 = 0 → RelL code.length (k + 1) (lookStep code day k (lA, acc)).2.1 (refStep code day k lR).2 ∧ (lookStep code day k (lA, acc)).2.2 = acc.note (code.getD k z113) (lR.getD k (false, [], [])).2.1.length) := by
 have hrel := hL.at_ k (Nat.le_refl _) hk
 have hget : lA[k]? = some (lA.getD k none) := by rw [List.getD_eq_getElem?_getD, List.getElem?_eq_getElem (by rw [hL.la]; exact hk)]; rfl
 unfold lookStep refStep
 simp only
 rw [hget]
 cases hA : lA.getD k none with
 | none =>
  rw [hA] at hrel
  have h1 : (lR.getD k (false, [], [])).1 = false := hrel
  have hw : wrongP (lR.getD k (false, [], [])).1 (lR.getD k (false, [], [])).2.1 (lR.getD k (false, [], [])).2.2 (code.getD k z113).f0 (code.getD k z113).f1 (code.getD k z113).f2 day k code.length = 146 := by rw [h1]; rfl
  rw [hw, if_pos (by decide)]
  exact ⟨rfl, fun h => absurd (show (146 : Int) = 0 from h) (by decide)⟩
 | some a =>
  rw [hA] at hrel
  simp only
  rw [wrong_rel hrel hx.1 hx.2.1]
  obtain ⟨x, hxx⟩ : ∃ x, code.getD k z113 = x := ⟨_, rfl⟩
  rw [hxx] at hx he ⊢
  by_cases e0 : applyE (look wantsEs x.f0) (kT x.f0) x.f0 x.f1 x.f2 day a.1 a.2 = 0
  ·have e1 : ¬ (applyE (look wantsEs x.f0) (kT x.f0) x.f0 x.f1 x.f2 day a.1 a.2 ≠ 0) := fun h => h e0
   rw [if_neg e1, if_neg e1]
   have hpa := places_any hx hk he
   by_cases hc : (x.f0 = 26 ∨ x.f0 = 27) ∧ (code.length : Int) ≤ k + 1 + x.f1
   ·rw [if_pos (show (placesL x k).any (fun t => decide ((code.length : Int) ≤ t)) = true by rw [hpa]; exact decide_eq_true hc), if_pos hc, if_pos (by decide)]
    exact ⟨rfl, fun h => absurd (show (141 : Int) = 0 from h) (by decide)⟩
   ·have hpf : (placesL x k).any (fun t => decide ((code.length : Int) ≤ t)) = false := by rw [hpa]; exact decide_eq_false hc
    rw [if_neg (show ¬ ((placesL x k).any (fun t => decide ((code.length : Int) ≤ t)) = true) by rw [hpf]; simp), if_neg hc, if_neg (show ¬ ((0 : Int) ≠ 0) by simp)]
    have haf := after_rel hrel hx.1 hx.2.1 e0
    have hh := hand_places haf (relL_mono hL (Nat.le_succ k)) hx hk he hpf
    have hln : (lR.getD k (false, [], [])).2.1.length = a.1.length := by rw [hrel.2.1, List.length_map]
    rw [hln]
    by_cases hz : (hand2 x k (afterR x (lR.getD k (false, [], []))) (hand1 x k (afterR x (lR.getD k (false, [], []))) lR)).1 = 0
    ·rw [if_neg (by rw [hh.1, hz]; simp)]
     refine ⟨hz.symm, fun _ => ⟨?_, rfl⟩⟩
     have hl2 := hh.2 hz
     refine ⟨by simp only; rw [List.length_set, hl2.la], hl2.lr, fun j h1 h2 => ?_⟩
     simp only
     rw [List.getD_eq_getElem?_getD, List.getElem?_set_ne (by omega), ← List.getD_eq_getElem?_getD]
     exact hl2.at_ j h1 h2
    ·rw [if_pos (by rw [hh.1]; exact hz)]
     exact ⟨hh.1, fun h => absurd h hz⟩
  ·rw [if_pos e0, if_pos e0, if_pos e0]
   exact ⟨rfl, fun h => absurd h e0⟩
theorem handTo_keep (b : RS) (l : List RS) (t : Nat) {j : Nat} (h : j < t) : (handTo b l t).2.getD j (false, [], []) = l.getD j (false, [], []) := by
 unfold handTo
 split
 ·rfl
 ·rw [List.getD_eq_getElem?_getD, List.getElem?_set_ne (by omega), ← List.getD_eq_getElem?_getD]
theorem refStep_keep (code : List S113) (day : Int) (k : Nat) (l : List RS) {j : Nat} (h : j ≤ k) : (refStep code day k l).2.getD j (false, [], []) = l.getD j (false, [], []) := by
 have h1 : ∀ b, (hand1 (code.getD k z113) k b l).2.getD j (false, [], []) = l.getD j (false, [], []) := fun b => by
  unfold hand1
  split
  ·rfl
  ·exact handTo_keep _ _ _ (by omega)
 unfold refStep
 simp only
 split
 ·rfl
 ·unfold hand2
  split
  ·exact h1 _
  ·split
   ·rw [handTo_keep _ _ _ (by omega)]; exact h1 _
   ·exact h1 _
theorem refSeg_keep (code : List S113) (day : Int) : ∀ (m k : Nat) (l : List RS) {j : Nat}, j ≤ k → (refSeg code day m k l).2.getD j (false, [], []) = l.getD j (false, [], [])
 | 0, _, _, _, _ => rfl
 | m + 1, k, l, j, h => by
  unfold refSeg
  split
  ·rw [refSeg_keep code day m (k + 1) _ (by omega), refStep_keep _ _ _ _ h]
  ·exact refStep_keep _ _ _ _ h
theorem mostR_max (a b : Int) : mostR a b = max a b := by unfold mostR; split <;> omega
theorem note_rel (acc : Acc) {x : S113} (hx : InstrOk x) (h : Nat) : acc.note x h = noteR acc x h := by
 obtain ⟨_, _, h2, h3⟩ := hx
 have hw : wrap64 (x.f1 + 1) = x.f1 + 1 := by unfold wrap64; omega
 unfold Acc.note noteR noteBack noteSlots noteCell
 rw [hw]
 simp only [mostR_max]
theorem seg_rel {code : List S113} {day : Int} (hok : ∀ x ∈ code, InstrOk x) (hen : ∀ (j : Nat) (x : S113), code[j]? = some x → (x.f0 = 0 ↔ j + 1 = code.length)) : ∀ (m k : Nat) (lA : List (Option AS)) (lR : List RS) (acc : Acc), k + m = code.length → RelL code.length k lA lR →
  (lookSeg code day m k (lA, acc)).1.1 = (refSeg code day m k lR).1 ∧ ((refSeg code day m k lR).1 = 0 → (lookSeg code day m k (lA, acc)).2 = noteSeg code (refSeg code day m k lR).2 m k acc)
 | 0, k, lA, lR, acc, _, _ => ⟨rfl, fun _ => rfl⟩
 | m + 1, k, lA, lR, acc, hkm, hL => by
  have hk : k < code.length := by omega
  have hgx : code[k]? = some (code.getD k z113) := by rw [List.getD_eq_getElem?_getD, List.getElem?_eq_getElem hk]; rfl
  have hx := hok _ (List.mem_iff_getElem?.2 ⟨k, hgx⟩)
  have hst := step_rel (day := day) (acc := acc) hk hx (hen k _ hgx) hL
  by_cases hz : (refStep code day k lR).1 = 0
  ·obtain ⟨h1, h2⟩ := hst.2 hz
   have e1 : lookSeg code day (m + 1) k (lA, acc) = lookSeg code day m (k + 1) (lookStep code day k (lA, acc)).2 := by simp only [lookSeg]; rw [if_pos (by rw [hst.1]; exact hz)]
   have e2 : refSeg code day (m + 1) k lR = refSeg code day m (k + 1) (refStep code day k lR).2 := by simp only [refSeg]; rw [if_pos hz]
   have e3 : (lookStep code day k (lA, acc)).2 = ((lookStep code day k (lA, acc)).2.1, acc.note (code.getD k z113) (lR.getD k (false, [], [])).2.1.length) := by rw [← h2]
   rw [e1, e2, e3]
   have ih := seg_rel (day := day) hok hen m (k + 1) _ _ (acc.note (code.getD k z113) (lR.getD k (false, [], [])).2.1.length) (by omega) h1
   refine ⟨ih.1, fun h0 => ?_⟩
   rw [ih.2 h0]
   simp only [noteSeg]
   rw [refSeg_keep code day m (k + 1) _ (Nat.le_succ k), refStep_keep _ _ _ _ (Nat.le_refl k), note_rel _ hx]
  ·have e1 : lookSeg code day (m + 1) k (lA, acc) = (((lookStep code day k (lA, acc)).1, k), (lookStep code day k (lA, acc)).2.2) := by simp only [lookSeg]; rw [if_neg (by rw [hst.1]; exact hz)]
   have e2 : refSeg code day (m + 1) k lR = refStep code day k lR := by simp only [refSeg]; rw [if_neg hz]
   rw [e1, e2]
   exact ⟨hst.1, fun h => absurd h hz⟩
theorem init_rel {n : Nat} (h : 0 < n) : RelL n 0 (initL n) (initR n) := by
 refine ⟨by simp [initL], by simp [initR], fun j _ hj => ?_⟩
 unfold initL initR
 by_cases h0 : 0 = j
 ·subst h0
  rw [List.getD_eq_getElem?_getD, List.getD_eq_getElem?_getD, List.getElem?_set_self (by simpa using hj), List.getElem?_set_self (by simpa using hj)]
  exact ⟨rfl, rfl, slOk_nil, fun k => rfl⟩
 ·rw [List.getD_eq_getElem?_getD, List.getD_eq_getElem?_getD, List.getElem?_set_ne h0, List.getElem?_set_ne h0, List.getElem?_replicate, List.getElem?_replicate, if_pos hj, if_pos hj]
  rfl
theorem days_rel : ∀ (days : List S54) (d : Nat) (acc : Acc), (∀ s ∈ days, DayOk s) → (∀ s ∈ days, EndOk s) → (lookDays days d acc).1.1 = (refDays days acc).1 ∧ ((refDays days acc).1 = 0 → (lookDays days d acc).2 = (refDays days acc).2)
 | [], _, _, _, _ => ⟨rfl, fun _ => rfl⟩
 | s :: rest, d, acc, hd, he => by
  have hs := hd s (by simp)
  have hsg := seg_rel (day := s.f0) hs.2.2 (he s (by simp)) s.f1.length 0 _ _ acc (by omega) (init_rel hs.1)
  simp only [lookDays, refDays]
  rw [hsg.1]
  by_cases hz : (refSeg s.f1 s.f0 s.f1.length 0 (initR s.f1.length)).1 = 0
  ·rw [if_pos hz, if_pos hz, hsg.2 hz]
   exact days_rel rest (d + 1) _ (fun x hx => hd x (by simp [hx])) (fun x hx => he x (by simp [hx]))
  ·rw [if_neg hz, if_neg hz]
   exact ⟨rfl, fun h => absurd h hz⟩
theorem verify_rel (names curs : List ByteArray) (pool : List Int) (hor cel slo sta : Int) (days : List S54) : (verifyP names curs pool hor cel slo sta days).1.1 = (verifyR names curs pool hor cel slo sta days).1 ∧ ((verifyR names curs pool hor cel slo sta days).1 = 0 → (verifyP names curs pool hor cel slo sta days).2 = (verifyR names curs pool hor cel slo sta days).2) := by
 unfold verifyP verifyR
 by_cases hc : canonP names curs pool hor cel slo sta days = 0
 ·have hc1 : ¬ (canonP names curs pool hor cel slo sta days ≠ 0) := fun h => h hc
  rw [if_neg hc1, if_neg hc1]
  obtain ⟨h1, h2⟩ := days_rel days 0 acc0 (canonP_ok hc).2.2 (canonP_end hc)
  by_cases hz : (refDays days acc0).1 = 0
  ·have g1 : ¬ ((lookDays days 0 acc0).1.1 ≠ 0) := fun h => h (h1.trans hz)
   have g2 : ¬ ((refDays days acc0).1 ≠ 0) := fun h => h hz
   rw [if_neg g1, if_neg g2, h2 hz]
   split <;> exact ⟨rfl, fun _ => rfl⟩
  ·have g1 : (lookDays days 0 acc0).1.1 ≠ 0 := fun h => hz (h1.symm.trans h)
   rw [if_pos g1, if_pos hz]
   exact ⟨h1, fun h => absurd h hz⟩
 ·rw [if_pos hc, if_pos hc]
  exact ⟨rfl, fun h => absurd h hc⟩
theorem mkCells (n : Nat) (hn : n ≤ 1000000) (W : World) : ∃ cs : Array Value, cs.size = n * 2 ∧ (Instr.makeSlice 39 (.int .i64 n) (.int .i64 n)).run Tryz.prog W = .ok (.slice (some ⟨W.heap.size, 0, none⟩) n n) (W.alloc (.cells cs 45)) := by
 obtain ⟨i0, hi0, hz0, hz1, hz2⟩ := info_parts info45
 have hr := run_make (P := Tryz.prog) W 39 45 i0 (.agg #[.bool false, .int .i64 0]) Tryz.underlying39 hi0 hz0 .i64 .i64 (n : Int) (n : Int) (by omega) (by omega) (by rw [hz2]; omega) (by omega)
 simp only [Int.toNat_natCast, hz1] at hr
 exact ⟨_, size_madeCells _ _, hr⟩
theorem cell_in {w : World} {g t : Nat} {cs : Array Value} (h : w.heap[g]? = some (.cells cs t (0, 0))) (i : Nat) (hi : i < cs.size) : w.cell? ⟨g, i, none⟩ = some cs[i] := by simp [World.cell?, h, hi]
theorem cel_at {w : World} {A : Option Addr} {n : Nat} {xs : List S45} (h : Kd.C k45 w A n xs) (k : Nat) (hk : k < n) : ∃ ad, A = some ad ∧ w.cell? (ad.add (k * 2)) = some (.bool (xs.getD k z45).f0) ∧ w.cell? ⟨(ad.add (k * 2)).block, (ad.add (k * 2)).off + 1, none⟩ = some (.int .i64 (xs.getD k z45).f1) := by
 obtain ⟨ad, e, h0, h1⟩ := at_T45 h (k : Int) (by omega) (by omega)
 simp only [rd_T45, Int.toNat_natCast] at h0 h1
 exact ⟨ad, e, h0, h1⟩
theorem fit_calls (A0 : Option Addr) (c0 : Nat) (l0 : List S45) (n : Nat) (hn : n ≤ 1000000) (w : World) (hr0 : Kd.C k45 w A0 l0.length l0) (hc0 : l0.length ≤ c0) : Calls Tryz.prog 42 #[.slice A0 l0.length c0, .int .i64 n] w fun e w' => ∃ A m c, e = .returned (.slice A m c) ∧ Fr w w' [] := by
 obtain ⟨cs0, hz, hmk⟩ := mkCells n hn w
 have HR := AsM hr0
 have HZ := AsM hz
 have hcu := Tryz.underlying45
 clear hr0 hz
 go_enter Tryz.func42, Tryz.ntmps42
 go_wp2
 clear hmk
 obtain ⟨g, hg⟩ : ∃ g, w.heap.size = g := ⟨_, rfl⟩
 obtain ⟨V, hV⟩ : ∃ V, w.alloc (.cells cs0 45) = V := ⟨_, rfl⟩
 have HF0 : Aside0 (Fr w V []) := ⟨hV ▸ (Fr.refl w []).alloc _⟩
 have HB0 : Aside0 (V.heap[g]? = some (.cells cs0 45 (0, 0))) := ⟨hg ▸ hV ▸ blk_newN rfl⟩
 have hwg : w.heap.size ≤ g := by omega
 rw [hV, hg]
 clear hV hg
 go_loopg [6] n (fun kq s6 wr => ∃ (i : Nat) (cs : Array Value), s6 = .int .i64 i ∧ i ≤ n ∧ Aside0 (n - i ≤ kq) ∧ Aside0 (Fr w wr []) ∧ Aside0 (cs.size = n * 2) ∧ Aside0 (wr.heap[g]? = some (.cells cs 45 (0, 0))))
 case atStart => exact ⟨0, cs0, rfl, Nat.zero_le _, ⟨Nat.le_refl _⟩, HF0, HZ, HB0⟩
 case round =>
  clear HZ HF0 HB0
  obtain ⟨i, cs, rfl, hi, HM, HF, HZ, HB⟩ := hrel
  by_cases hin : i < n
  ·have n3 : decide (i < n) = true := by simpa using hin
   have p0 : (0 : Int) ≤ (i : Int) := by omega
   have p1 : (i : Int) < n := by omega
   by_cases hil : i < l0.length
   ·have n4 : decide (i < l0.length) = true := by simpa using hil
    have p2 : (i : Int) < l0.length := by omega
    obtain ⟨ad, rfl, g0, g1⟩ := cel_at HR.out i hil
    obtain ⟨x, hx⟩ : ∃ x, l0.getD i z45 = x := ⟨_, rfl⟩
    rw [hx] at g0 g1
    obtain ⟨xh, xv⟩ := x
    simp only at g0 g1
    have q0 := (World.cell?_of_block (HF.out.block _ (World.block_lt_of_cell? w _ g0) (by simp))).trans g0
    have q1 := (World.cell?_of_block (HF.out.block _ (World.block_lt_of_cell? w _ g1) (by simp))).trans g1
    have hz := HZ.out
    have e0 := cell_in HB.out (i * 2) (by omega)
    have e1 := cell_in HB.out (i * 2 + 1) (by omega)
    have f0 := blk_frozen HB.out (i * 2)
    have f1 := blk_frozen HB.out (i * 2 + 1)
    have lg := blk_lt HB.out
    clear hx g0 g1
    cases xh
    ·go_wp2
     go_roundg (n - (i + 1))
     case measure => have := HM.out; omega
     case rel => exact ⟨i + 1, cs, by go_num, by omega, ⟨Nat.le_refl _⟩, HF, HZ, HB⟩
    ·go_wp2
     go_roundg (n - (i + 1))
     case measure => have := HM.out; omega
     case rel => exact ⟨i + 1, _, by go_num, by omega, ⟨Nat.le_refl _⟩, ⟨(HF.out.setCell _ _ (.inr hwg)).setCell _ _ (.inr hwg)⟩, ⟨by simpa using HZ.out⟩, ⟨blk_put (blk_put HB.out (i * 2) _ rfl) (i * 2 + 1) _ rfl⟩⟩
   ·have n4 : decide (i < l0.length) = false := by simpa using hil
    go_wp2
    go_ret
    exact ⟨_, _, _, rfl, HF.out⟩
  ·have n3 : decide (i < n) = false := by simpa using hin
   go_wp2
   go_ret
   exact ⟨_, _, _, rfl, HF.out⟩
end Go.Proofs.YtpoehkacfmljcaaGreatDoor.H
