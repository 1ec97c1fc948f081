/- Pruned from its seat's text: what the theorem hangs on. -/
import Derived.Test.YtjgdpcblenahkaaDoorSCore
import Derived.Test.YtjgdpcblenahkaaDoorSAlPure
/- Small words for lists of numbers. -/
set_option linter.unusedVariables false
set_option linter.unusedSimpArgs false
namespace Go.Proofs.YtjgdpcblenahkaaDoor
open Go.RowKit

def casts (l : List Nat) : List Int := l.map Int.ofNat

theorem map_at {l : List (Int × Int)} {g : Int × Int → Int} {k : Nat} {x : Int} (h : (l.map g)[k]? = some x) : ∃ p, l[k]? = some p ∧ x = g p := by
  simp only [List.getElem?_map, Option.map_eq_some_iff] at h
  obtain ⟨y, h1, h2⟩ := h
  exact ⟨y, h1, h2.symm⟩

theorem ints_set (l : List Int) (k : Nat) (x : Int) : (ints l).set k (.int .i64 x) = ints (l.set k x) := by simp [ints, List.map_set]

end Go.Proofs.YtjgdpcblenahkaaDoor
