/- Pruned from its seat's text: what the theorem hangs on. -/
import Derived.Lib.LaidTab
import Derived.Test.YtjgdpcblenahkaaDoorSQ0
/- The table of math/bits that the program reads: what is known of it at the call's begin, and later. -/
namespace Go.Proofs.YtjgdpcblenahkaaDoorQ
open Go.RowKit

def deTab : List Int := [0, 1, 56, 2, 57, 49, 28, 3, 61, 58, 42, 50, 38, 29, 17, 4, 62, 47, 59, 36, 45, 43, 51, 22, 53, 39, 33, 30, 24, 18, 12, 5, 63, 55, 48, 27, 60, 41, 37, 16, 46, 35, 44, 21, 52, 32, 23, 11, 54, 26, 40, 15, 34, 20, 31, 10, 25, 14, 19, 9, 13, 8, 7, 6]
/-- The table is laid: each of its cells holds its number. -/
def TabG (w : World) : Prop := ∀ i, i < 64 → w.cell? ⟨0, i, none⟩ = some (.int .u8 (deTab.getD i 0))
theorem TabG.below {w w' : World} (h : TabG w) (hb : Below w.heap.size w w') : TabG w' := fun i hi =>
  (hb.cell (World.block_lt_of_cell? w _ (h i hi))).trans (h i hi)
theorem gTab : Tryd.prog.globalNamed "math/bits.deBruijn64tab" = some 0 := by kernel_rfl
theorem TabG.of_tab {w : World} (h : Lib.TabIs Tryd.prog w "math/bits.deBruijn64tab" .u8 deTab) : TabG w := fun i hi => h.cell gTab i (by simpa [deTab] using hi)
end Go.Proofs.YtjgdpcblenahkaaDoorQ
