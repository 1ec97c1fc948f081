/- Pruned from its seat's text: what the theorem hangs on. -/
import Derived.Test.YtjgdpcblenahkaaDoorSQXOnes
/- byteset.Count: walked; told as the printed texts are. -/
set_option linter.unusedVariables false
set_option linter.unusedSimpArgs false
namespace Go.Proofs.YtjgdpcblenahkaaDoorQ
open Go.RowKit Go.Proofs.Bs Go.Proofs.YtjgdpcblenahkaaDoor

theorem run_set0 (a b c d : Value) (w : World) : (Instr.index 24 (.agg #[a, b, c, d]) (.int .i64 0)).run Tryd.prog w = .ok a w := by
  simp only [Instr.index, run_underlying Tryd.underlying24, asIntOf, go_sem]
  simp [go_sem]
theorem run_set1 (a b c d : Value) (w : World) : (Instr.index 24 (.agg #[a, b, c, d]) (.int .i64 1)).run Tryd.prog w = .ok b w := by
  simp only [Instr.index, run_underlying Tryd.underlying24, asIntOf, go_sem]
  simp [go_sem]
theorem run_set2 (a b c d : Value) (w : World) : (Instr.index 24 (.agg #[a, b, c, d]) (.int .i64 2)).run Tryd.prog w = .ok c w := by
  simp only [Instr.index, run_underlying Tryd.underlying24, asIntOf, go_sem]
  simp [go_sem]
theorem run_set3 (a b c d : Value) (w : World) : (Instr.index 24 (.agg #[a, b, c, d]) (.int .i64 3)).run Tryd.prog w = .ok d w := by
  simp only [Instr.index, run_underlying Tryd.underlying24, asIntOf, go_sem]
  simp [go_sem]
attribute [local go_sem] run_set0 run_set1 run_set2 run_set3

end Go.Proofs.YtjgdpcblenahkaaDoorQ
