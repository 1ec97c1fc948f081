/- Pruned from its seat's text: what the theorem hangs on. -/
import Derived.Test.YtjgdpcblenahkaaDoorJBsPure
/- Plain mathematics: the runs of a set of bytes. No program in sight. -/
namespace Go.Proofs.Bs

theorem has_range (lo hi j : Nat) (hh : hi < 256) (hj : j < 256) : has (span S.zero lo (hi + 1 - lo)) j = decide (lo ≤ j ∧ j ≤ hi) := by
  by_cases h : lo ≤ hi
  · rw [has_span _ _ _ _ (by omega) hj, has_zero, Bool.false_or]
    rw [decide_eq_decide]
    omega
  · rw [show hi + 1 - lo = 0 by omega]
    show has S.zero j = _
    rw [has_zero]
    symm
    rw [decide_eq_false_iff_not]
    omega
end Go.Proofs.Bs
