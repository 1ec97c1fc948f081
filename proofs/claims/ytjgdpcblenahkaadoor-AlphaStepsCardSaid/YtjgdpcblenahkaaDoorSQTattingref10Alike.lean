/- Pruned from its seat's text: what the theorem hangs on. -/
import Derived.Test.YtjgdpcblenahkaaDoorSQ0
import Derived.Test.YtjgdpcblenahkaaDoorSQG
import Derived.Test.YtjgdpcblenahkaaDoorSQXBytesetHas
-- Written by aprint.py (a program of this session, over the kit's print): Lean checks it.
namespace Go.Proofs.YtjgdpcblenahkaaDoorQ
open Go.RowKit Go.Proofs.YtjgdpcblenahkaaDoorW.PrintWords Go.Proofs.YtjgdpcblenahkaaDoorW.PrintLast Go.Proofs.YtjgdpcblenahkaaDoorW.PrintMore
attribute [local go_sem] max2_int min2_int max_two min_two max_three min_three max_four min_four   -- for this text's walks alone
set_option linter.unusedVariables false
set_option linter.unusedSimpArgs false


def tattingref10_alike.T8 : Bool × List (List Nat × List Nat) := (true, [([], []), ([0], [0]), ([], []), ([1, 2], [1, 2]), ([3], [3]), ([4], [4]), ([], []), ([5, 6], [5, 6]), ([], []), ([8], [8]), ([], []), ([9, 10], [9, 10]), ([11], [11]), ([12], [12]), ([], []), ([13, 14, 7], [13, 14]), ([7, 15], [7, 15])])
def tattingref10_alike.B8 : List Nat := [0, 1, 0, 7, 15, 31, 0, 127, 0, 256, 0, 1792, 3840, 7936, 0, 32767, 65535]
theorem tattingref10_alike.tab8 : rtab .any (opsOf Tryd.f61 8) = tattingref10_alike.T8 := by kernel_rfl
theorem tattingref10_alike.bits8 : waitsOk tattingref10_alike.T8.2 tattingref10_alike.B8 = true := by kernel_rfl

end Go.Proofs.YtjgdpcblenahkaaDoorQ
