/- Plain: each part of a tree, alone, is a tree, no deeper. -/
import Derived.Test.YtghkkganbhpbhaaTreePure2
set_option linter.unusedSectionVars false
namespace Go.Proofs.Ytghkkganbhpbhaa
open Go.Proofs.Bs

theorem popG_le (l : List Nd) (k : Nat) : ∀ f : Int, -1 ≤ f → popG l k f ≤ f := by
  induction k with
  | zero => intro f _; exact Int.le_refl _
  | succ k ih =>
    intro f hf
    unfold popG
    split
    · omega
    · split
      · have := ih (-1) (by omega); omega
      · have hr := fst1_range l (f - 1).toNat
        have := ih (fst1 l (f - 1).toNat) hr.1
        omega
theorem popG_succ (l : List Nd) (k : Nat) (a : Nat) : popG l (k + 1) ((a : Int) + 1) = popG l k (fst1 l a) := by
  rw [popG, if_neg (by omega), if_neg (by omega), show ((a : Int) + 1 - 1).toNat = a by omega]

theorem kids_cover (l : List Nd) (k : Nat) : ∀ a : Int, kidsOk l k a → ∀ j : Int, popG l k (a + 1) ≤ j → j ≤ a → ∃ y ∈ kidsDown l k a, fst1 l y.toNat ≤ j ∧ j ≤ y ∧ popG l k (a + 1) ≤ fst1 l y.toNat := by
  induction k with
  | zero => intro a _ j h1 h2; exact absurd h1 (by show ¬ (a + 1 ≤ j); omega)
  | succ k ih =>
    intro a hok j h1 h2
    obtain ⟨h3, h4, h5, h6⟩ := hok
    obtain ⟨a, rfl⟩ := Int.eq_ofNat_of_zero_le h3
    rw [Int.toNat_natCast] at h5 h6
    rw [popG_succ] at h1 ⊢
    have hle := popG_le l k (fst1 l a) (by omega)
    by_cases hj : fst1 l a ≤ j
    · exact ⟨a, List.mem_cons_self, by rw [Int.toNat_natCast]; exact hj, h2, by rw [Int.toNat_natCast]; exact hle⟩
    · have e : fst1 l a - 1 + 1 = fst1 l a := by omega
      obtain ⟨y, hy, h7⟩ := ih (fst1 l a - 1) h6 j (by rw [e]; exact h1) (by omega)
      refine ⟨y, ?_, by rw [e] at h7; exact h7⟩
      rw [kidsDown, first_eq l a (by omega)]
      exact List.mem_cons_of_mem _ hy
theorem kidsP_cover (l : List Nd) (i : Nat) (hi : i < l.length) (hf : 0 ≤ fst1 l i) (j : Int) (h1 : fst1 l i ≤ j) (h2 : j < i) : ∃ y : Nat, (y : Int) ∈ kidsP l i ∧ y < i ∧ 0 ≤ fst1 l y ∧ fst1 l y ≤ j ∧ j ≤ y ∧ fst1 l i ≤ fst1 l y := by
  have hx : l[i]? = some l[i] := List.getElem?_eq_getElem hi
  have hk := kids_ok l i _ hx hf
  have hp := fst1_pop l i _ hx
  have he := kidsP_eq l i _ hx hf
  have hkk := kidsP_ok l i hi hf
  generalize l[i] = x at *
  rw [if_neg (by omega)] at hp
  have e : (i : Int) - 1 + 1 = i := by omega
  obtain ⟨y, hy, h3, h4, h5⟩ := kids_cover l _ _ hk.2 j (by rw [e, ← hp]; exact h1) (by omega)
  rw [e, ← hp] at h5
  have hmem : y ∈ kidsP l i := by rw [he, List.mem_reverse]; exact hy
  have h6 := hkk y hmem
  obtain ⟨y, rfl⟩ := Int.eq_ofNat_of_zero_le h6.1
  rw [Int.toNat_natCast] at h3 h5 h6
  exact ⟨y, hmem, by omega, h6.2.2, h3, h4, h5⟩
theorem part_low (l : List Nd) (i : Nat) : i < l.length → 0 ≤ fst1 l i → ∀ j : Nat, fst1 l i ≤ j → j ≤ i → fst1 l i ≤ fst1 l j ∧ depthR l j ≤ depthR l i := by
  induction i using Nat.strongRecOn with
  | ind i ih =>
    intro hi hf j h1 h2
    rcases Nat.eq_or_lt_of_le h2 with rfl | h3
    · exact ⟨Int.le_refl _, Int.le_refl _⟩
    · obtain ⟨y, hm, hy, h4, h5, h6, h7⟩ := kidsP_cover l i hi hf j h1 (by omega)
      have := ih y hy (by omega) h4 j h5 (by omega)
      refine ⟨by omega, ?_⟩
      have hd : depthR l y ≤ maxOf ((kidsP l i).map fun y => depthR l y.toNat) 0 := by
        have gen : ∀ (ds : List Int) (m : Int), m ≤ maxOf ds m ∧ ∀ d ∈ ds, d ≤ maxOf ds m := by
          intro ds
          induction ds with
          | nil => intro m; exact ⟨Int.le_refl _, fun d hd => by cases hd⟩
          | cons e ds ihd =>
            intro m
            have := ihd (max m e)
            unfold maxOf
            refine ⟨by omega, fun d hd => ?_⟩
            rcases List.mem_cons.1 hd with rfl | hd
            · omega
            · exact this.2 d hd
        exact (gen _ 0).2 _ (List.mem_map.2 ⟨(y : Int), hm, by rw [Int.toNat_natCast]⟩)
      rw [depthR_eq l i hi hf]
      omega

section
variable (l : List Nd) (i f : Nat) (hi : i < l.length) (hf : fst1 l i = f)
include hi hf
theorem fi : f ≤ i := by have := fst1_range l i; omega
theorem part_get (j : Nat) (hj : f + j ≤ i) : ((l.take (i + 1)).drop f)[j]? = l[f + j]? := by
  rw [List.getElem?_drop, List.getElem?_take_of_lt (by omega)]
theorem part_len : ((l.take (i + 1)).drop f).length = i + 1 - f := by
  rw [List.length_drop, List.length_take]; omega
theorem part_pop (j : Nat) (ih : ∀ q, q < j → f + q ≤ i → fst1 ((l.take (i + 1)).drop f) q = fst1 l (f + q) - f) (hj : f + j ≤ i) (a : Nat) :
    ∀ s : Nat, f ≤ s → s ≤ f + j → (f : Int) ≤ popG l a s → popG ((l.take (i + 1)).drop f) a ((s : Int) - f) = popG l a s - f := by
  induction a with
  | zero => intro s _ _ _; rfl
  | succ a iha =>
    intro s h1 h2 h3
    cases s with
    | zero =>
      unfold popG at h3
      rw [if_neg (by omega), if_pos (by omega), popG_neg _ _ _ (by omega)] at h3
      omega
    | succ s =>
      have e : ((s + 1 : Nat) : Int) = (s : Int) + 1 := by omega
      rw [e, popG_succ] at h3
      have hr := fst1_range l s
      have hle := popG_le l a (fst1 l s) hr.1
      obtain ⟨q, rfl⟩ : ∃ q, s = f + q := ⟨s - f, by omega⟩
      have h4 := ih q (by omega) (by omega)
      rw [e, popG_succ, show (((f + q : Nat) : Int) + 1 - f) = (q : Int) + 1 by omega, popG_succ, h4]
      obtain ⟨t, ht⟩ := Int.eq_ofNat_of_zero_le (show 0 ≤ fst1 l (f + q) by omega)
      rw [ht] at h3 hr hle ⊢
      exact iha t (by omega) (by omega) h3
theorem part_fst (j : Nat) : f + j ≤ i → fst1 ((l.take (i + 1)).drop f) j = fst1 l (f + j) - f := by
  induction j using Nat.strongRecOn with
  | ind j ih =>
    intro hj
    have hx : l[f + j]? = some l[f + j] := List.getElem?_eq_getElem (by omega)
    have hx' : ((l.take (i + 1)).drop f)[j]? = some l[f + j] := by rw [part_get l i f hi hf j hj]; exact hx
    have hlow := (part_low l i hi (by omega) (f + j) (by omega) hj).1
    have hp := fst1_pop l (f + j) _ hx
    have hp' := fst1_pop _ j _ hx'
    generalize l[f + j] = x at *
    have ha : ¬ arity x.kind < 0 := by intro h; rw [if_pos h] at hp; omega
    rw [if_neg ha] at hp hp'
    rw [hp', hp]
    have := part_pop l i f hi hf j ih hj (arity x.kind).toNat (f + j) (by omega) (by omega) (by rw [← hp]; omega)
    rw [show (((f + j : Nat) : Int) - f) = j by omega] at this
    exact this
theorem part_kids (j : Nat) (hj : f + j ≤ i) (a : Nat) : ∀ s : Nat, f ≤ s → s ≤ f + j → (f : Int) ≤ popG l a s → kidsDown ((l.take (i + 1)).drop f) a ((s : Int) - 1 - f) = (kidsDown l a ((s : Int) - 1)).map (· - (f : Int)) := by
  induction a with
  | zero => intro s _ _ _; rfl
  | succ a iha =>
    intro s h1 h2 h3
    cases s with
    | zero =>
      unfold popG at h3
      rw [if_neg (by omega), if_pos (by omega), popG_neg _ _ _ (by omega)] at h3
      omega
    | succ s =>
      have e : ((s + 1 : Nat) : Int) = (s : Int) + 1 := by omega
      rw [e, popG_succ] at h3
      have hr := fst1_range l s
      have hle := popG_le l a (fst1 l s) hr.1
      obtain ⟨q, rfl⟩ : ∃ q, s = f + q := ⟨s - f, by omega⟩
      have h4 := part_fst l i f hi hf q (by omega)
      rw [e, show ((f + q : Nat) : Int) + 1 - 1 = ((f + q : Nat) : Int) by omega, show ((f + q : Nat) : Int) - f = (q : Int) by omega]
      rw [kidsDown, kidsDown, List.map_cons, first_eq l (f + q) (by omega), first_eq _ q (by rw [part_len l i f hi hf]; omega), h4]
      obtain ⟨t, ht⟩ := Int.eq_ofNat_of_zero_le (show 0 ≤ fst1 l (f + q) by omega)
      rw [ht] at h3 hr hle ⊢
      congr 1
      · omega
      · rw [show (t : Int) - f - 1 = (t : Int) - 1 - f by omega]
        exact iha t (by omega) (by omega) h3
theorem part_depth (j : Nat) : f + j ≤ i → depthR ((l.take (i + 1)).drop f) j = depthR l (f + j) := by
  induction j using Nat.strongRecOn with
  | ind j ih =>
    intro hj
    have hx : l[f + j]? = some l[f + j] := List.getElem?_eq_getElem (by omega)
    have hx' : ((l.take (i + 1)).drop f)[j]? = some l[f + j] := by rw [part_get l i f hi hf j hj]; exact hx
    have hlow := (part_low l i hi (by omega) (f + j) (by omega) hj).1
    have hps := part_fst l i f hi hf j hj
    have hok := kidsP_ok l (f + j) (by omega) (by omega)
    have hlen := part_len l i f hi hf
    have h1 := depthR_eq l (f + j) (by omega) (by omega)
    have h2 := depthR_eq ((l.take (i + 1)).drop f) j (by omega) (by omega)
    have k1 := kidsP_eq l (f + j) _ hx (by omega)
    have k2 := kidsP_eq _ j _ hx' (by omega)
    have hp := fst1_pop l (f + j) _ hx
    generalize l[f + j] = x at *
    have ha : ¬ arity x.kind < 0 := by intro h; rw [if_pos h] at hp; omega
    rw [if_neg ha] at hp
    have hk := part_kids l i f hi hf j hj (arity x.kind).toNat (f + j) (by omega) (by omega) (by rw [← hp]; omega)
    rw [show ((f + j : Nat) : Int) - 1 - f = (j : Int) - 1 by omega] at hk
    rw [h1, h2]
    congr 2
    rw [k2, hk, ← List.map_reverse, ← k1, List.map_map]
    apply List.map_congr_left
    intro y hy
    have h6 := hok y hy
    obtain ⟨yn, rfl⟩ := Int.eq_ofNat_of_zero_le h6.1
    rw [Int.toNat_natCast] at h6
    have hcov : f ≤ yn := by
      have : ∀ (a : Nat) (s : Nat), kidsOk l a ((s : Int) - 1) → (f : Int) ≤ popG l a s → ∀ z ∈ kidsDown l a ((s : Int) - 1), (f : Int) ≤ z := by
        intro a
        induction a with
        | zero => intro s _ _ z hz; cases hz
        | succ a iha =>
          intro s hoks hps' z hz
          obtain ⟨q1, q2, q3, q4⟩ := hoks
          cases s with
          | zero => exact absurd q1 (by omega)
          | succ s =>
            have e : ((s + 1 : Nat) : Int) = (s : Int) + 1 := by omega
            rw [e, popG_succ] at hps'
            rw [e, show (s : Int) + 1 - 1 = s by omega, Int.toNat_natCast] at q3 q4
            rw [e, show (s : Int) + 1 - 1 = s by omega] at q2
            have hr := fst1_range l s
            have hle := popG_le l a (fst1 l s) hr.1
            rw [e, show (s : Int) + 1 - 1 = s by omega, kidsDown, first_eq l s (by omega)] at hz
            rcases List.mem_cons.1 hz with rfl | hz
            · omega
            · obtain ⟨t, ht⟩ := Int.eq_ofNat_of_zero_le q3
              rw [ht] at q4 hps' hz
              exact iha t q4 hps' z hz
      have hk9 := kids_ok l (f + j) x hx (by omega)
      have := this _ (f + j) hk9.2 (by rw [← hp]; omega) yn (by rw [k1, List.mem_reverse] at hy; exact hy)
      omega
    obtain ⟨q, rfl⟩ : ∃ q, yn = f + q := ⟨yn - f, by omega⟩
    show depthR _ (((f + q : Nat) : Int) - f).toNat = depthR l ((f + q : Nat) : Int).toNat
    rw [Int.toNat_natCast, show (((f + q : Nat) : Int) - f).toNat = q by omega]
    exact ih q (by omega) (by omega)
end

theorem part_tree (l : List Nd) (hr : rightB l = true) (i : Nat) (hi : i < l.length) : rightB (partP l i) = true ∧ depthP (partP l i) ≤ depthP l ∧ ((partP l i).length : Int) = i + 1 - fst1 l i := by
  obtain ⟨h5, hall, h0, hlast⟩ := (rightB_iff l).1 hr
  have hfi := (hall i hi).1
  obtain ⟨f, hf⟩ := Int.eq_ofNat_of_zero_le hfi
  have hfe := first_eq l i hi
  have hpe : partP l (i : Int) = (l.take (i + 1)).drop f := by
    unfold partP
    rw [hfe, if_neg (by omega), hf, Int.toNat_natCast, Int.toNat_natCast]
  have hle := fi l i f hi hf
  have hlen := part_len l i f hi hf
  rw [hpe]
  have hrp : rightB ((l.take (i + 1)).drop f) = true := by
    rw [rightB_iff]
    refine ⟨by omega, fun j hj => ?_, by omega, ?_⟩
    · have hlow := (part_low l i hi hfi (f + j) (by omega) (by omega)).1
      rw [part_fst l i f hi hf j (by omega)]
      refine ⟨by omega, ?_⟩
      rw [List.getD_eq_getElem?_getD, part_get l i f hi hf j (by omega), ← List.getD_eq_getElem?_getD]
      exact (hall (f + j) (by omega)).2
    · rw [hlen, show i + 1 - f - 1 = i - f by omega, part_fst l i f hi hf (i - f) (by omega), show f + (i - f) = i by omega, hf]
      omega
  refine ⟨hrp, ?_, by omega⟩
  rw [depth_eq _ hrp, depth_eq l hr, hlen, show i + 1 - f - 1 = i - f by omega, part_depth l i f hi hf (i - f) (by omega), show f + (i - f) = i by omega]
  exact (part_low l (l.length - 1) (by omega) (by omega) i (by omega) (by omega)).2

/-- How many nodes so many arguments' parts have together. -/
def lens (l : List Nd) (ks : List Int) : Int := (ks.map fun y => ((partP l y).length : Int)).sum
theorem lens_down (l : List Nd) (k : Nat) : ∀ a : Int, kidsOk l k a → lens l (kidsDown l k a) = a + 1 - popG l k (a + 1) := by
  induction k with
  | zero => intro a _; simp [lens, kidsDown, popG]
  | succ k ih =>
    intro a hok
    obtain ⟨h3, h4, h5, h6⟩ := hok
    obtain ⟨a, rfl⟩ := Int.eq_ofNat_of_zero_le h3
    rw [Int.toNat_natCast] at h5 h6
    have e : fst1 l a - 1 + 1 = fst1 l a := by omega
    have hi := ih _ h6
    rw [e] at hi
    have hpl := partP_length l a (by omega) (by rw [first_eq l a (by omega)]; exact h5)
    rw [first_eq l a (by omega)] at hpl
    rw [popG_succ, kidsDown, first_eq l a (by omega)]
    unfold lens at hi ⊢
    rw [List.map_cons, List.sum_cons, hi, hpl]
    omega
theorem lens_kids (l : List Nd) (hr : rightB l = true) (i : Nat) (hi : i < l.length) : 1 + lens l (kidsP l i) = (partP l i).length := by
  obtain ⟨h5, hall, h0, hlast⟩ := (rightB_iff l).1 hr
  have hfi := (hall i hi).1
  have hx : l[i]? = some l[i] := List.getElem?_eq_getElem hi
  have hk := kids_ok l i _ hx hfi
  have hp := fst1_pop l i _ hx
  have he := kidsP_eq l i _ hx hfi
  have hpt := (part_tree l hr i hi).2.2
  generalize l[i] = x at *
  rw [if_neg (by omega)] at hp
  have hd := lens_down l _ _ hk.2
  rw [show (i : Int) - 1 + 1 = i by omega, ← hp] at hd
  have hrev : lens l (kidsP l i) = lens l (kidsDown l (arity x.kind).toNat ((i : Int) - 1)) := by
    rw [he]
    unfold lens
    rw [List.map_reverse, List.sum_reverse]
  rw [hrev, hd, hpt]
  omega
theorem part_whole (l : List Nd) (hr : rightB l = true) : (partP l ((l.length - 1 : Nat) : Int)).length = l.length := by
  obtain ⟨h5, hall, h0, hlast⟩ := (rightB_iff l).1 hr
  have := (part_tree l hr (l.length - 1) (by omega)).2.2
  rw [hlast] at this
  omega
end Go.Proofs.Ytghkkganbhpbhaa
