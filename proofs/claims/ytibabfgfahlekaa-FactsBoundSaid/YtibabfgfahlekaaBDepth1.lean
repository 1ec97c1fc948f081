/- Pruned from its seat's text: what the theorem hangs on. -/
import Derived.Test.YtibabfgfahlekaaBDepth0
/- Plain: how deep a tree is, by going down. -/
namespace Go.Proofs.Ytibabfgfahlekaa
open Go.Proofs.Bs

set_option linter.unusedVariables false

/-- The last nodes of so many parts, the first one first, that end ahead of a place. -/
def roots (l : List Nd) (m k : Nat) : List Int := (kidsDown l m ((k : Int) - 1)).reverse
theorem kidsDown_add (l : List Nd) (a b : Nat) : ∀ k : Nat, k ≤ l.length → ∀ s : Nat, popG l a k = s → kidsDown l (a + b) ((k : Int) - 1) = kidsDown l a ((k : Int) - 1) ++ kidsDown l b ((s : Int) - 1) := by
  induction a with
  | zero =>
    intro k _ s hs
    have : (k : Int) = s := hs
    rw [Nat.zero_add, this]
    rfl
  | succ a ih =>
    intro k hk s hs
    unfold popG at hs
    rw [if_neg (show ¬ (k : Int) < 0 by omega)] at hs
    by_cases h0 : (k : Int) = 0
    · rw [if_pos h0, popG_neg _ _ _ (by omega)] at hs; omega
    · rw [if_neg h0, show ((k : Int) - 1).toNat = k - 1 by omega] at hs
      have hr := fst1_range l (k - 1)
      have h1 : 0 ≤ fst1 l (k - 1) := by
        by_cases h2 : fst1 l (k - 1) < 0
        · rw [popG_neg _ _ _ h2] at hs; omega
        · omega
      obtain ⟨f, hf⟩ := Int.eq_ofNat_of_zero_le h1
      rw [hf] at hs
      have := ih f (by omega) s hs
      have e : firstI l ((k : Int) - 1) = f := by
        rw [show (k : Int) - 1 = ((k - 1 : Nat) : Int) by omega, first_eq l _ (by omega), hf]
      rw [show a + 1 + b = (a + b) + 1 by omega]
      show _ :: kidsDown l (a + b) (firstI l ((k : Int) - 1) - 1) = (_ :: kidsDown l a (firstI l ((k : Int) - 1) - 1)) ++ _
      rw [e, this]
      rfl

end Go.Proofs.Ytibabfgfahlekaa
