/- Pruned from its seat's text: what the theorem hangs on. -/
import Derived.Test.YtibabfgfahlekaaBQ0
-- Written by aprint.py (a program of this session, over the kit's print): Lean checks it.
namespace Go.Proofs.YtibabfgfahlekaaQ
open Go.RowKit Go.Proofs.YtibabfgfahlekaaW.PrintWords Go.Proofs.YtibabfgfahlekaaW.PrintLast Go.Proofs.YtibabfgfahlekaaW.PrintMore
attribute [local go_sem] max2_int min2_int max_two min_two max_three min_three max_four min_four   -- for this text's walks alone
set_option linter.unusedVariables false
set_option linter.unusedSimpArgs false

theorem isAggE29 (w : World) : (isAgg 27).run Try.prog w = .ok false w := by kernel_rfl
theorem rangeE29 : List.range' 0 4 = [0, 1, 2, 3] := rfl
theorem eqA29 (d : Nat) (w : World) (x0 y0 : Int) (x1 y1 : Int) (x2 y2 : Int) (x3 y3 : Int) :
    (Op.equalIn (d + 2) 29 (.agg #[.int .u64 x0, .int .u64 x1, .int .u64 x2, .int .u64 x3]) (.agg #[.int .u64 y0, .int .u64 y1, .int .u64 y2, .int .u64 y3])).run Try.prog w = .ok (x0 == y0 && (x1 == y1 && (x2 == y2 && (x3 == y3)))) w := by
  unfold Op.equalIn
  simp only [Sem.run_bind, run_underlying Try.underlying29, Result.andThen_ok]
  simp [go_sem, rangeE29, isAggE29]
  by_cases h0 : x0 = y0 <;> by_cases h1 : x1 = y1 <;> by_cases h2 : x2 = y2 <;> by_cases h3 : x3 = y3 <;> simp [go_sem, isAggE29, h0, h1, h2, h3]
end Go.Proofs.YtibabfgfahlekaaQ
