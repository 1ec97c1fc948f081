/- Pruned from its seat's text: what the theorem hangs on. -/
import Derived.Test.YtibabfgfahlekaaGAttr
/- Plain: how many states are made of a tree, as the program and as the document's answer reckon it. -/
namespace Go.Proofs.Ytibabfgfahlekaa
open Go.Proofs.Bs

theorem kind_cases {k : Int} (h : 0 ≤ arity k) : (k = 1 ∨ k = 2 ∨ k = 3 ∨ k = 4) ∧ arity k = 0 ∨ (k = 5 ∨ k = 6) ∧ arity k = 2 ∨ k = 7 ∧ arity k = 1 := by
  unfold arity at h ⊢
  split at h
  · rename_i h1; exact .inl ⟨h1, by rw [if_pos h1]⟩
  · split at h
    · rename_i h7; subst h7; exact .inr (.inr ⟨rfl, rfl⟩)
    · split at h
      · rename_i h1 h2 h3
        exact .inr (.inl ⟨h3, by rw [if_neg h1, if_neg h2, if_pos h3]⟩)
      · omega
theorem rep_fields {x : Nd} (hx : fieldsB x = true) (h7 : x.kind = 7) : 0 ≤ x.lo ∧ x.lo ≤ 32 ∧ (x.hi = -1 ∨ x.lo ≤ x.hi ∧ x.hi ≤ 32) := by
  unfold fieldsB at hx
  split at hx
  · cases hx
  · rw [if_neg (by omega)] at hx
    simpa using hx
theorem kidsP_length (l : List Nd) (i : Nat) (x : Nd) (hx : l[i]? = some x) (hf : 0 ≤ fst1 l i) : (kidsP l i).length = (arity x.kind).toNat := by
  rw [kidsP_eq l i _ hx hf, List.length_reverse, kidsDown_length]
def sumOf : List Int → Int → Int
  | [], m => m
  | d :: ds, m => sumOf ds (m + d)
/-- The states of a node, out of its arguments' own. -/
def fSize (x : Nd) (ks : List Int) : Int :=
  min (if x.kind = 5 then sumOf ks 2 - 2 else if x.kind = 7 ∧ x.hi < 0 then 3 + (x.lo + 1) * ks.getD 0 0 else if x.kind = 7 then 2 + x.hi * ks.getD 0 0 + x.hi - x.lo else sumOf ks 2) 1048576
theorem fSize_leaf (x : Nd) (h : x.kind = 1 ∨ x.kind = 2 ∨ x.kind = 3 ∨ x.kind = 4) : fSize x [] = 2 := by
  unfold fSize sumOf
  rw [if_neg (by omega), if_neg (by omega), if_neg (by omega)]
  rfl
theorem fSize_cat (x : Nd) (h : x.kind = 5) (a b : Int) : fSize x [a, b] = min (a + b) 1048576 := by
  unfold fSize
  rw [if_pos h]
  simp only [sumOf]
  congr 1; omega
theorem fSize_or (x : Nd) (h : x.kind = 6) (a b : Int) : fSize x [a, b] = min (a + b + 2) 1048576 := by
  unfold fSize
  rw [if_neg (by omega), if_neg (by omega), if_neg (by omega)]
  simp only [sumOf]
  congr 1; omega
theorem fSize_rep (x : Nd) (h : x.kind = 7) (a : Int) : fSize x [a] = min (if x.hi < 0 then 3 + (x.lo + 1) * a else 2 + x.hi * a + x.hi - x.lo) 1048576 := by
  unfold fSize
  rw [if_neg (by omega)]
  by_cases hh : x.hi < 0
  · rw [if_pos ⟨h, hh⟩, if_pos hh]; rfl
  · rw [if_neg (fun k => hh k.2), if_pos h, if_neg hh]; rfl
theorem fSize_le (x : Nd) (ks : List Int) : fSize x ks ≤ 1048576 := by unfold fSize; omega
theorem attr_fSize_le (l : List Nd) (i : Nat) : attr fSize l i ≤ 1048576 := by rw [attr]; exact fSize_le _ _
theorem fSize_pos (x : Nd) (ks : List Int) (hx : fieldsB x = true) (ha : 0 ≤ arity x.kind) (hk : (ks.length : Int) = arity x.kind) (h : ∀ d ∈ ks, 1 ≤ d ∧ d ≤ 1048576) : 1 ≤ fSize x ks := by
  have hc : x.kind = 1 ∨ x.kind = 2 ∨ x.kind = 3 ∨ x.kind = 4 ∨ x.kind = 5 ∨ x.kind = 6 ∨ x.kind = 7 := by
    unfold arity at ha
    split at ha
    · omega
    · split at ha
      · omega
      · split at ha
        · omega
        · omega
  rcases hc with e | e | e | e | e | e | e
  case inr.inr.inr.inr.inr.inr =>
    have h1 : arity x.kind = 1 := by rw [e]; decide
    rw [h1] at hk
    obtain ⟨a, rfl⟩ : ∃ a, ks = [a] := by
      match ks, hk with
      | [a], _ => exact ⟨a, rfl⟩
    rw [fSize_rep x e]
    have := h a (by simp)
    have hf : 0 ≤ x.lo ∧ x.lo ≤ 32 ∧ (x.hi = -1 ∨ x.lo ≤ x.hi ∧ x.hi ≤ 32) := by
      unfold fieldsB at hx
      split at hx
      · cases hx
      · rw [if_neg (by omega)] at hx
        simpa using hx
    split
    · have : 0 ≤ (x.lo + 1) * a := Int.mul_nonneg (by omega) (by omega)
      omega
    · have : 0 ≤ x.hi * a := Int.mul_nonneg (by omega) (by omega)
      omega
  all_goals
    have h1 := congrArg arity e
    rw [h1] at hk
    first
    | (obtain rfl : ks = [] := List.eq_nil_of_length_eq_zero (by have : ((ks.length : Nat) : Int) = 0 := hk; omega)
       rw [fSize_leaf x (by omega)]; omega)
    | (obtain ⟨a, b, rfl⟩ : ∃ a b, ks = [a, b] := by
         have h2 : ks.length = 2 := by have : ((ks.length : Nat) : Int) = 2 := hk; omega
         match ks, h2 with
         | [a, b], _ => exact ⟨a, b, rfl⟩
       have ha := h a (by simp)
       have hb := h b (by simp)
       first
       | (rw [fSize_cat x e]; omega)
       | (rw [fSize_or x e]; omega))
theorem size_bound (l : List Nd) (hr : rightB l = true) (i : Nat) : i < l.length → 1 ≤ attr fSize l i ∧ attr fSize l i ≤ 1048576 := by
  obtain ⟨_, hall, _⟩ := (rightB_iff l).1 hr
  induction i using Nat.strongRecOn with
  | ind i ih =>
    intro hi
    refine ⟨?_, attr_fSize_le l i⟩
    have hf := (hall i hi).1
    have hx : l[i]? = some l[i] := List.getElem?_eq_getElem hi
    have hg : l.getD i zNd = l[i] := by rw [List.getD_eq_getElem?_getD, hx]; rfl
    rw [attr_eq fSize l i hi hf]
    obtain ⟨ha, _⟩ := stack_room l hr i _ hx
    refine fSize_pos _ _ (hall i hi).2 (by rw [hg]; exact ha) ?_ ?_
    · rw [hg, List.length_map, kidsP_eq l i _ hx hf, List.length_reverse, kidsDown_length]; omega
    · intro d hd
      obtain ⟨y, hy, rfl⟩ := List.mem_map.1 hd
      have := kidsP_ok l i hi hf y hy
      exact ih y.toNat (by omega) (by omega)
end Go.Proofs.Ytibabfgfahlekaa
