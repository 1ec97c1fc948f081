/- Pruned from its seat's text: what the theorem hangs on. -/
import Derived.Test.YtjgdpcblenahkaaDoorCQ0
import Derived.Test.YtjgdpcblenahkaaDoorCQG
import Derived.Test.YtjgdpcblenahkaaDoorCQAlphaClasses
import Derived.Test.YtjgdpcblenahkaaDoorCQNfaRight
import Derived.Test.YtjgdpcblenahkaaDoorCQXBytesetHas
import Derived.Test.YtjgdpcblenahkaaDoorCQXNfaWalk
import Derived.Test.YtjgdpcblenahkaaDoorCQTattinglaw10Awake
import Derived.Test.YtjgdpcblenahkaaDoorCQTattingref10Same
-- Written by aprint.py (a program of this session, over the kit's print): Lean checks it.
namespace Go.Proofs.YtjgdpcblenahkaaDoorQ
open Go.RowKit Go.Proofs.YtjgdpcblenahkaaDoorW.PrintWords Go.Proofs.YtjgdpcblenahkaaDoorW.PrintLast Go.Proofs.YtjgdpcblenahkaaDoorW.PrintMore
attribute [local go_sem] max2_int min2_int max_two min_two max_three min_three max_four min_four   -- for this text's walks alone
set_option linter.unusedVariables false
set_option linter.unusedSimpArgs false

def tattinglaw10_AlphaSteps.T8 : Bool × List (List Nat × List Nat) := (true, [([], []), ([0], [0]), ([1], [1]), ([2], [2]), ([3], [3]), ([4, 3], [3, 4]), ([3, 5], [3, 5]), ([6, 3], [6]), ([7], [7]), ([8, 7], [7, 8]), ([9, 7], [7, 9]), ([7], [7]), ([11, 7], [7, 11]), ([12, 7], [7, 12]), ([10, 13, 7], [7, 10, 13]), ([7, 14], [7, 14]), ([15, 7], [15]), ([16], [16]), ([17, 16], [16, 17]), ([18, 16], [16, 18]), ([16], [16]), ([20, 16], [16, 20]), ([21, 16], [16, 21]), ([19, 22, 16], [16, 19, 22]), ([16, 23], [16, 23])])
def tattinglaw10_AlphaSteps.B8 : List Nat := [0, 1, 3, 7, 15, 31, 63, 127, 255, 511, 1023, 255, 2303, 6399, 16383, 32767, 65535, 131071, 262143, 524287, 131071, 1179647, 3276799, 8388607, 16777215]
theorem tattinglaw10_AlphaSteps.tab8 : rtab .any (opsOf Tryd.f8 8) = tattinglaw10_AlphaSteps.T8 := by kernel_rfl
theorem tattinglaw10_AlphaSteps.bits8 : waitsOk tattinglaw10_AlphaSteps.T8.2 tattinglaw10_AlphaSteps.B8 = true := by kernel_rfl

end Go.Proofs.YtjgdpcblenahkaaDoorQ
