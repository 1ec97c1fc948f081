/- Pruned from its seat's text: what the theorem hangs on. -/
import Derived.Test.YtjgdpcblenahkaaDoorTQ0
import Derived.Test.YtjgdpcblenahkaaDoorTQG
import Derived.Test.YtjgdpcblenahkaaDoorTQEq0
import Derived.Test.YtjgdpcblenahkaaDoorTQTattinglaw01Awake
import Derived.Test.YtjgdpcblenahkaaDoorTQSets
import Derived.Laws.BitsAllLaws
import Derived.Lib.Hide
import Derived.Test.YtjgdpcblenahkaaDoorTQXBytesetOf
import Derived.Test.YtjgdpcblenahkaaDoorTQXBytesetAnd
import Derived.Test.YtjgdpcblenahkaaDoorTQXBytesetLess
import Derived.Test.YtjgdpcblenahkaaDoorTQXBytesetNot
import Derived.Test.YtjgdpcblenahkaaDoorTQXBytesetOr
-- Written by aprint.py (a program of this session, over the kit's print): Lean checks it.
namespace Go.Proofs.YtjgdpcblenahkaaDoorQ
open Go.RowKit Go.Proofs.YtjgdpcblenahkaaDoorW.PrintWords Go.Proofs.YtjgdpcblenahkaaDoorW.PrintLast Go.Proofs.YtjgdpcblenahkaaDoorW.PrintMore
attribute [local go_sem] max2_int min2_int max_two min_two max_three min_three max_four min_four   -- for this text's walks alone
set_option linter.unusedVariables false
set_option linter.unusedSimpArgs false

attribute [local go_sem high] eqA24
def tattinglaw01_ByteSetJoins.T3 : Bool × List (List Nat × List Nat) := (true, [([], []), ([], []), ([0, 1], [0, 1]), ([], []), ([], []), ([3, 4, 2], [3, 4]), ([2, 5], [2, 5]), ([6, 5], [6]), ([7], [7]), ([7], [7]), ([8, 9, 7, 7], [7, 8, 9]), ([7], [7]), ([7], [7]), ([11, 12, 10, 7], [7, 11, 12]), ([10, 13, 7], [7, 10, 13]), ([7, 14], [7, 14]), ([15, 13], [15]), ([16], [16]), ([16], [16]), ([17, 18, 16, 16], [16, 17, 18]), ([16], [16]), ([16], [16]), ([20, 21, 19, 16], [16, 20, 21]), ([19, 22, 16], [16, 19, 22]), ([16, 23], [16, 23]), ([24, 22], [24]), ([25], [25]), ([26, 25, 25], [25, 26]), ([25], [25]), ([28, 27, 25], [25, 28]), ([27, 29, 25], [25, 27, 29]), ([25, 30], [25, 30]), ([31, 29], [31]), ([32], [32]), ([32], [32]), ([33, 34, 32, 32], [32, 33, 34]), ([32], [32]), ([32], [32]), ([37, 32], [32, 37]), ([36, 38, 35, 32], [32, 36, 38]), ([35, 39, 32], [32, 35, 39]), ([32, 40], [32, 40]), ([41, 39, 0, 1, 2, 3, 4, 5, 6, 7, 8, 9, 10, 11, 12, 13, 14, 15, 16, 17, 18, 19, 20, 21, 22, 23, 24, 25, 26, 27, 28, 29, 30, 31, 32, 33, 34, 35, 36, 37, 38, 39, 40, 41], [41])])
def tattinglaw01_ByteSetJoins.B3 : List Nat := [0, 0, 3, 0, 0, 31, 63, 127, 255, 255, 1023, 255, 255, 8191, 16383, 32767, 65535, 131071, 131071, 524287, 131071, 131071, 4194303, 8388607, 16777215, 33554431, 67108863, 134217727, 67108863, 536870911, 1073741823, 2147483647, 4294967295, 8589934591, 8589934591, 34359738367, 8589934591, 8589934591, 146028888063, 549755813887, 1099511627775, 2199023255551, 4398046511103]
theorem tattinglaw01_ByteSetJoins.tab3 : rtab .any (opsOf Tryd.f4 3) = tattinglaw01_ByteSetJoins.T3 := by kernel_rfl
theorem tattinglaw01_ByteSetJoins.bits3 : waitsOk tattinglaw01_ByteSetJoins.T3.2 tattinglaw01_ByteSetJoins.B3 = true := by kernel_rfl

end Go.Proofs.YtjgdpcblenahkaaDoorQ
