/- Pruned from its seat's text: what the theorem hangs on. -/
import Derived.Test.YtjgdpcblenahkaaDoorSQSets
import Derived.Test.YtjgdpcblenahkaaDoorSCore
import Derived.Laws.BitsAllLaws
import Derived.Deep.RegionWith
/- byteset.Or: walked; told as the printed texts are. -/
set_option linter.unusedVariables false
set_option linter.unusedSimpArgs false
namespace Go.Proofs.YtjgdpcblenahkaaDoorQ
open Go.RowKit Go.Proofs.Bs Go.Proofs.YtjgdpcblenahkaaDoor

def four (s : S) : Int × Int × Int × Int := (s.a, s.b, s.c, s.d)
end Go.Proofs.YtjgdpcblenahkaaDoorQ
