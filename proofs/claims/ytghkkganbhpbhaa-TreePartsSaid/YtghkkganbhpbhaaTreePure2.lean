/- Plain: parts of trees; equal lists. -/
import Derived.Test.YtghkkganbhpbhaaDepth1
namespace Go.Proofs.Ytghkkganbhpbhaa
open Go.Proofs.Bs
def partP (l : List Nd) (i : Int) : List Nd := if firstI l i < 0 then [] else (l.take (i.toNat + 1)).drop (firstI l i).toNat
theorem Nd.ext_of {x y : Nd} (h : x.kind = y.kind ∧ (x.set.a = y.set.a ∧ x.set.b = y.set.b ∧ x.set.c = y.set.c ∧ x.set.d = y.set.d) ∧ x.lo = y.lo ∧ x.hi = y.hi) : x = y := by
  obtain ⟨k, ⟨a, b, c, d⟩, lo, hi⟩ := x
  obtain ⟨k', ⟨a', b', c', d'⟩, lo', hi'⟩ := y
  obtain ⟨rfl, ⟨rfl, rfl, rfl, rfl⟩, rfl, rfl⟩ := h
  rfl
noncomputable def sameB (l m : List Nd) : Bool := @decide (l = m) (Classical.propDecidable _)
theorem sameB_true {l m : List Nd} : sameB l m = true ↔ l = m := by simp [sameB]
theorem sameB_self (l : List Nd) : sameB l l = true := sameB_true.2 rfl
theorem sameB_false {l m : List Nd} (h : l ≠ m) : sameB l m = false := by
  cases e : sameB l m with
  | false => rfl
  | true => exact absurd (sameB_true.1 e) h
theorem partP_length (l : List Nd) (i : Nat) (hi : i < l.length) (h : 0 ≤ firstI l i) : ((partP l i).length : Int) = i + 1 - firstI l i := by
  have := first_le l i (by omega)
  unfold partP
  rw [if_neg (by omega), List.length_drop, List.length_take]
  omega
end Go.Proofs.Ytghkkganbhpbhaa
