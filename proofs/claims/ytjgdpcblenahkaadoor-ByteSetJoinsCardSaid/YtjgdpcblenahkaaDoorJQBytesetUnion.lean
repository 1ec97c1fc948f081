/- Pruned from its seat's text: what the theorem hangs on. -/
import Derived.Test.YtjgdpcblenahkaaDoorJQ0
import Derived.Test.YtjgdpcblenahkaaDoorJQG
import Derived.Test.YtjgdpcblenahkaaDoorJQXBytesetOr
import Derived.Test.YtjgdpcblenahkaaDoorJQXBytesetRange
-- Written by aprint.py (a program of this session, over the kit's print): Lean checks it.
namespace Go.Proofs.YtjgdpcblenahkaaDoorQ
open Go.RowKit Go.Proofs.YtjgdpcblenahkaaDoorW.PrintWords Go.Proofs.YtjgdpcblenahkaaDoorW.PrintLast Go.Proofs.YtjgdpcblenahkaaDoorW.PrintMore
attribute [local go_sem] max2_int min2_int max_two min_two max_three min_three max_four min_four   -- for this text's walks alone
set_option linter.unusedVariables false
set_option linter.unusedSimpArgs false

def byteset_Union.T5 : Bool × List (List Nat × List Nat) := (true, [([], []), ([], []), ([1], [1]), ([], []), ([3], [3]), ([2, 4], [2, 4]), ([0, 5, 5], [0, 5]), ([6, 6, 0, 1, 2, 3, 4, 5, 6], [6])])
def byteset_Union.B5 : List Nat := [0, 0, 2, 0, 8, 30, 63, 127]
theorem byteset_Union.tab5 : rtab .any (opsOf Tryd.f35 5) = byteset_Union.T5 := by kernel_rfl
theorem byteset_Union.bits5 : waitsOk byteset_Union.T5.2 byteset_Union.B5 = true := by kernel_rfl

end Go.Proofs.YtjgdpcblenahkaaDoorQ
