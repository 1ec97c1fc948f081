/- Pruned from its seat's text: what the theorem hangs on. -/
import Derived.Test.YtibabfgfahlekaaZQNd
import Derived.Test.YtibabfgfahlekaaZTree7
/- tattingref04.Right: told as the printed texts are. -/
set_option linter.unusedVariables false
set_option linter.unusedSimpArgs false
namespace Go.Proofs.YtibabfgfahlekaaQ
open Go.RowKit Go.Proofs.Bs Go.Proofs.Ytibabfgfahlekaa Go.Proofs.YtibabfgfahlekaaW.PrintWords
def tattingref04_Right.f (l0 : List NdI) : Option Bool := if l0.length ≤ 1000000 ∧ ndsWf l0 = true then some (rightB (l0.map ndOf)) else none
theorem tattingref04_Right.calls (A0 : Option Addr) (c0 : Nat) (l0 : List NdI) (r : Bool) (w : World) (hr0 : Kd.C k63 w A0 l0.length l0) (hc0 : l0.length ≤ c0) (h : tattingref04_Right.f l0 = some r) :
    Calls Try.prog 10 #[.slice A0 l0.length c0] w fun e w' => e = .returned (.bool r) ∧ Below w.heap.size w w' := by
  unfold tattingref04_Right.f at h
  split at h
  case isFalse => cases h
  case isTrue c =>
    injection h with h
    subst h
    exact rright_any A0 l0.length c0 (l0.map ndOf) w (reads_nds hr0 c.2) c.1
end Go.Proofs.YtibabfgfahlekaaQ
