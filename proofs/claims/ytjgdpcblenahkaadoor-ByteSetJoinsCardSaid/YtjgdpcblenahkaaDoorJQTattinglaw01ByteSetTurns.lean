/- Pruned from its seat's text: what the theorem hangs on. -/
import Derived.Test.YtjgdpcblenahkaaDoorJQ0
import Derived.Test.YtjgdpcblenahkaaDoorJQG
import Derived.Test.YtjgdpcblenahkaaDoorJQEq0
import Derived.Test.YtjgdpcblenahkaaDoorJQTattinglaw01Awake
import Derived.Test.YtjgdpcblenahkaaDoorJQXBytesetAnd
import Derived.Test.YtjgdpcblenahkaaDoorJQXBytesetBytes
import Derived.Test.YtjgdpcblenahkaaDoorJQXBytesetCount
import Derived.Test.YtjgdpcblenahkaaDoorJQXBytesetLess
import Derived.Test.YtjgdpcblenahkaaDoorJQXBytesetNot
import Derived.Test.YtjgdpcblenahkaaDoorJQXBytesetOf
import Derived.Test.YtjgdpcblenahkaaDoorJQXBytesetOr
-- Written by aprint.py (a program of this session, over the kit's print): Lean checks it.
namespace Go.Proofs.YtjgdpcblenahkaaDoorQ
open Go.RowKit Go.Proofs.YtjgdpcblenahkaaDoorW.PrintWords Go.Proofs.YtjgdpcblenahkaaDoorW.PrintLast Go.Proofs.YtjgdpcblenahkaaDoorW.PrintMore
attribute [local go_sem] max2_int min2_int max_two min_two max_three min_three max_four min_four   -- for this text's walks alone
set_option linter.unusedVariables false
set_option linter.unusedSimpArgs false

attribute [local go_sem high] eqA24
def tattinglaw01_ByteSetTurns.T3 : Bool × List (List Nat × List Nat) := (true, [([], []), ([], []), ([0, 1], [0, 1]), ([2, 2], [2]), ([], []), ([4, 3], [4]), ([], []), ([6, 5], [6]), ([5, 7, 7], [5, 7]), ([3, 8], [3, 8]), ([9, 8], [9]), ([10], [10]), ([11, 10, 10], [10, 11]), ([12, 12, 10], [10, 12]), ([10], [10]), ([13, 14, 10], [10, 13, 14]), ([10, 15], [10, 15]), ([16, 13], [16]), ([17], [17]), ([18, 17, 17], [17, 18]), ([19, 19, 17], [17, 19]), ([17], [17]), ([20, 21, 17], [17, 20, 21]), ([17, 22], [17, 22]), ([23, 20], [23]), ([24], [24]), ([24], [24]), ([25, 26, 24, 24], [24, 25, 26]), ([24], [24]), ([24], [24]), ([28, 29, 27, 24], [24, 28, 29]), ([27, 30, 30, 24], [24, 27, 30]), ([24], [24]), ([31, 32, 24], [24, 31, 32]), ([24, 33], [24, 33]), ([34, 31], [34]), ([35], [35]), ([36, 35, 35], [35, 36]), ([35], [35]), ([38, 37, 35], [35, 38]), ([37, 39, 35], [35, 37, 39]), ([35], [35]), ([35], [35]), ([41, 42, 39, 35], [35, 41, 42]), ([43, 43, 35], [35, 43]), ([35], [35]), ([35], [35]), ([45, 46, 44, 35], [35, 45, 46]), ([47, 47, 35], [35, 47]), ([44, 48, 35], [35, 44, 48]), ([40, 49, 35], [35, 40, 49]), ([35, 50], [35, 50]), ([51, 48, 0, 1, 2, 3, 4, 5, 6, 7, 8, 9, 10, 11, 12, 13, 14, 15, 16, 17, 18, 19, 20, 21, 22, 23, 24, 25, 26, 27, 28, 29, 30, 31, 32, 33, 34, 35, 36, 37, 38, 39, 40, 41, 42, 43, 44, 45, 46, 47, 48, 49, 50, 51], [51])])
def tattinglaw01_ByteSetTurns.B3 : List Nat := [0, 0, 3, 7, 0, 31, 0, 127, 255, 511, 1023, 2047, 4095, 8191, 2047, 32767, 65535, 131071, 262143, 524287, 1048575, 262143, 4194303, 8388607, 16777215, 33554431, 33554431, 134217727, 33554431, 33554431, 1073741823, 2147483647, 33554431, 8589934591, 17179869183, 34359738367, 68719476735, 137438953471, 68719476735, 549755813887, 1099511627775, 68719476735, 68719476735, 7696581394431, 16492674416639, 68719476735, 68719476735, 139637976727551, 280375465082879, 561850441793535, 1125899906842623, 2251799813685247, 4503599627370495]
theorem tattinglaw01_ByteSetTurns.tab3 : rtab .any (opsOf Tryd.f3 3) = tattinglaw01_ByteSetTurns.T3 := by kernel_rfl
theorem tattinglaw01_ByteSetTurns.bits3 : waitsOk tattinglaw01_ByteSetTurns.T3.2 tattinglaw01_ByteSetTurns.B3 = true := by kernel_rfl

end Go.Proofs.YtjgdpcblenahkaaDoorQ
