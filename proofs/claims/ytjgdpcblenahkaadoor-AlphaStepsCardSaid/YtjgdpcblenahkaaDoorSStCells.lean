/- Pruned from its seat's text: what the theorem hangs on. -/
import Derived.Test.YtjgdpcblenahkaaDoorSCore
import Derived.Test.YtjgdpcblenahkaaDoorSQ0
import Derived.Test.YtjgdpcblenahkaaDoorSNwPure
/- A state of an automaton, as cells. -/
set_option linter.unusedVariables false
set_option linter.unusedSimpArgs false
namespace Go.Proofs.YtjgdpcblenahkaaDoorQ
open Go.RowKit Go.Proofs.YtjgdpcblenahkaaDoorW.PrintWords Go.Proofs.YtjgdpcblenahkaaDoorW.PrintLast Go.Proofs.YtjgdpcblenahkaaDoor

def stCells (s : St) : List Value := [.int .i64 s.f0, .int .i64 s.f1, .int .i64 s.f2, .int .u64 s.f3.f0, .int .u64 s.f3.f1, .int .u64 s.f3.f2, .int .u64 s.f3.f3]
theorem stCells_length (s : St) : (stCells s).length = 7 := rfl
end Go.Proofs.YtjgdpcblenahkaaDoorQ
