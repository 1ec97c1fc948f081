/- Pruned from its seat's text: what the theorem hangs on. -/
import Derived.Test.YtjgdpcblenahkaaDoorCQ0
/- Plain: the walk of an automaton that puts places on a list and takes the last one. -/
namespace Go.Proofs.YtjgdpcblenahkaaDoorQ
open Go.RowKit Go.Proofs.YtjgdpcblenahkaaDoorW.PrintWords Go.Proofs.YtjgdpcblenahkaaDoorW.PrintLast

abbrev St := S88

end Go.Proofs.YtjgdpcblenahkaaDoorQ
