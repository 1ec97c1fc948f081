/- Plain: how deep a tree is, by going down. -/
import Derived.Test.YtghkkganbhpbhaaDepth0
namespace Go.Proofs.Ytghkkganbhpbhaa
open Go.Proofs.Bs

theorem kidsP_len (l : List Nd) (i : Int) : (kidsP l i).length ≤ 2 := by
  unfold kidsP
  split
  · simp
  · split
    · simp
    · rename_i x _
      rw [List.length_reverse, kidsDown_length]
      have := arity_hi x.kind
      omega
set_option linter.unusedVariables false
def depthR (l : List Nd) (i : Nat) : Int :=
  maxOf ((kidsP l i).map fun y => if h : y.toNat < i then depthR l y.toNat else 0) 0 + 1
termination_by i
theorem depthR_eq (l : List Nd) (i : Nat) (hi : i < l.length) (hf : 0 ≤ fst1 l i) : depthR l i = maxOf ((kidsP l i).map fun y => depthR l y.toNat) 0 + 1 := by
  rw [depthR]
  congr 2
  apply List.map_congr_left
  intro y hy
  have := kidsP_ok l i hi hf y hy
  rw [dif_pos (by omega)]
theorem depthR_bound (l : List Nd) (i : Nat) : 1 ≤ depthR l i ∧ depthR l i ≤ i + 1 := by
  induction i using Nat.strongRecOn with
  | ind i ih =>
    rw [depthR]
    have := maxOf_bound ((kidsP l i).map fun y => if h : y.toNat < i then depthR l y.toNat else 0) 0 i (by omega) (by omega) (by
      intro d hd
      obtain ⟨y, _, rfl⟩ := List.mem_map.1 hd
      split
      · rename_i h
        have := ih _ h
        omega
      · omega)
    omega

/-- The last nodes of so many parts, the first one first, that end ahead of a place. -/
def roots (l : List Nd) (m k : Nat) : List Int := (kidsDown l m ((k : Int) - 1)).reverse
theorem kidsDown_add (l : List Nd) (a b : Nat) : ∀ k : Nat, k ≤ l.length → ∀ s : Nat, popG l a k = s → kidsDown l (a + b) ((k : Int) - 1) = kidsDown l a ((k : Int) - 1) ++ kidsDown l b ((s : Int) - 1) := by
  induction a with
  | zero =>
    intro k _ s hs
    have : (k : Int) = s := hs
    rw [Nat.zero_add, this]
    rfl
  | succ a ih =>
    intro k hk s hs
    unfold popG at hs
    rw [if_neg (show ¬ (k : Int) < 0 by omega)] at hs
    by_cases h0 : (k : Int) = 0
    · rw [if_pos h0, popG_neg _ _ _ (by omega)] at hs; omega
    · rw [if_neg h0, show ((k : Int) - 1).toNat = k - 1 by omega] at hs
      have hr := fst1_range l (k - 1)
      have h1 : 0 ≤ fst1 l (k - 1) := by
        by_cases h2 : fst1 l (k - 1) < 0
        · rw [popG_neg _ _ _ h2] at hs; omega
        · omega
      obtain ⟨f, hf⟩ := Int.eq_ofNat_of_zero_le h1
      rw [hf] at hs
      have := ih f (by omega) s hs
      have e : firstI l ((k : Int) - 1) = f := by
        rw [show (k : Int) - 1 = ((k - 1 : Nat) : Int) by omega, first_eq l _ (by omega), hf]
      rw [show a + 1 + b = (a + b) + 1 by omega]
      show _ :: kidsDown l (a + b) (firstI l ((k : Int) - 1) - 1) = (_ :: kidsDown l a (firstI l ((k : Int) - 1) - 1)) ++ _
      rw [e, this]
      rfl

theorem stack_roots (l : List Nd) (hr : rightB l = true) (k : Nat) (hk : k ≤ l.length) : tiles l k (stackP l k).length ∧ stackP l k = (roots l (stackP l k).length k).map fun y => depthR l y.toNat := by
  obtain ⟨_, hall, _⟩ := (rightB_iff l).1 hr
  induction k with
  | zero => exact ⟨rfl, rfl⟩
  | succ k ih =>
    obtain ⟨ht, hs⟩ := ih (by omega)
    have hx : l[k]? = some l[k] := List.getElem?_eq_getElem (by omega)
    have hg : l.getD k zNd = l[k] := by rw [List.getD_eq_getElem?_getD, hx]; rfl
    have h0 := (hall k (by omega)).1
    have hp := fst1_pop l k _ hx
    have hkp := kidsP_eq l k _ hx h0
    have hroom := stack_room l hr k _ hx
    generalize l[k] = x at hx hg hp hkp hroom
    have h1 := pop_tiles l (arity x.kind).toNat k _ ht
    rw [if_neg (by omega)] at hp
    obtain ⟨s, hps, hts⟩ := h1.1 hroom.2
    generalize hm : (stackP l k).length = m at *
    obtain ⟨b, hb⟩ : ∃ b, m = (arity x.kind).toNat + b := ⟨m - (arity x.kind).toNat, by omega⟩
    have hlen : (stackP l (k + 1)).length = b + 1 := by
      rw [stackP, hg, stackStep, List.length_append, List.length_take, hm]
      simp; omega
    have hroots : roots l m k = (kidsDown l b ((s : Int) - 1)).reverse ++ kidsP l k := by
      unfold roots
      rw [hb, kidsDown_add l _ b k (by omega) s hps, List.reverse_append, hkp]
    have hcl : ((kidsDown l b ((s : Int) - 1)).reverse).length = b := by rw [List.length_reverse, kidsDown_length]
    have hfs : fst1 l k = s := by rw [hp, hps]
    rw [hlen]
    refine ⟨⟨by omega, ?_, ?_⟩, ?_⟩
    · rw [Nat.add_sub_cancel]; omega
    · rw [Nat.add_sub_cancel, hfs, Int.toNat_natCast, show b = m - (arity x.kind).toNat by omega]; exact hts
    · rw [stackP, hg, stackStep, hm, show m - (arity x.kind).toNat = b by omega, hs, hroots, List.map_append]
      have e1 : roots l (b + 1) (k + 1) = (kidsDown l b ((s : Int) - 1)).reverse ++ [(k : Int)] := by
        unfold roots
        rw [show ((k + 1 : Nat) : Int) - 1 = (k : Int) by omega]
        show ((k : Int) :: kidsDown l b (firstI l (k : Int) - 1)).reverse = _
        rw [first_eq l k (by omega), hfs, List.reverse_cons]
      rw [e1, List.map_append, List.take_left' (by rw [List.length_map, hcl]), List.drop_left' (by rw [List.length_map, hcl])]
      congr 1
      simp only [List.map_cons, List.map_nil, Int.toNat_natCast]
      rw [depthR_eq l k (by omega) h0]

theorem depth_eq (l : List Nd) (hr : rightB l = true) : depthP l = depthR l (l.length - 1) := by
  obtain ⟨_, hall, h0, hf⟩ := (rightB_iff l).1 hr
  obtain ⟨ht, hs⟩ := stack_roots l hr l.length (by omega)
  have he := stack_end l hr
  generalize hm : (stackP l l.length).length = m at *
  have hm1 : m = 1 := by
    cases m with
    | zero => omega
    | succ m =>
      have := ht.2.2
      rw [hf] at this
      have := tiles_zero this
      omega
  subst hm1
  unfold depthP
  rw [hs]
  simp only [roots, kidsDown, List.reverse_cons, List.reverse_nil, List.nil_append, List.map_cons, List.map_nil, List.getD_cons_zero]
  congr 1
  omega
end Go.Proofs.Ytghkkganbhpbhaa
