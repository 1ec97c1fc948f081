/- Pruned from its seat's text: what the theorem hangs on. -/
import Derived.Test.YtjgdpcblenahkaaDoorJQXBytesetOf
/- byteset.Range: walked; told as the printed texts are. -/
set_option linter.unusedVariables false
set_option linter.unusedSimpArgs false
namespace Go.Proofs.YtjgdpcblenahkaaDoorQ
open Go.RowKit Go.Proofs.Bs Go.Proofs.YtjgdpcblenahkaaDoor Go.Proofs.YtjgdpcblenahkaaDoorW.PrintWords

def rangeS (lo hi : Nat) : S := span S.zero lo (hi + 1 - lo)
theorem rangeS_wf (lo hi : Nat) : (rangeS lo hi).wf := wf_span S.wf_zero _ _

end Go.Proofs.YtjgdpcblenahkaaDoorQ
