/- Pruned from its seat's text: what the theorem hangs on. -/
import Derived.Test.YtibabfgfahlekaaGFsPure
/- Plain: what a tree tells ahead of any text, and which parts of a text fit it. -/
namespace Go.Proofs.Ytibabfgfahlekaa
open Go.Proofs.Bs
set_option linter.unusedVariables false

structure Fa where
  never : Bool
  least : Int
  most : Int
  first : S
  ends : Bool
def Fa.zero : Fa := ⟨false, 0, 0, S.zero, false⟩
def Fa.none_ : Fa := ⟨true, 0, 0, S.zero, false⟩

abbrev Grid := Nat → Nat → Bool

/-- What facts tell of a grid. -/
def Told (f : Fa) (n : Nat) (text : Nat → Nat) (g : Grid) : Prop :=
  0 ≤ f.least ∧ -1 ≤ f.most ∧ ∀ i j, g i j = true → i ≤ j ∧ j ≤ n ∧ f.never = false ∧ f.least ≤ (j : Int) - i ∧ (f.most < 0 ∨ (j : Int) - i ≤ f.most) ∧ (i < j → has f.first (text i) = true)

end Go.Proofs.Ytibabfgfahlekaa
