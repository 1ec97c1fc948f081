/- Pruned from its seat's text: what the theorem hangs on. -/
import Derived.Test.YtjgdpcblenahkaaDoorRows
import Derived.Test.YtjgdpcblenahkaaDoorTie
import Derived.Test.YtjgdpcblenahkaaDoorCards
import Derived.Test.YtjgdpcblenahkaaDoorSQG
import Derived.ProofKit
import Derived.LaidMore
import Derived.OpenShut
import Derived.Stop.Joined
import Derived.SevenTiedAt
/- What a row that lists the table of math/bits takes: the world that meets it, and the table's fact. -/
namespace Go.Proofs.YtjgdpcblenahkaaDoor
open Go.ChangeShapes Go.WideShapes Go.ChangeAt Go.WideMaps Go.WideElems Go.RowKit
def laidL : List (String × DataW Unit) := [("math/bits.deBruijn64tab", Rows.laid_math_bits_deBruijn64tab)]
theorem door_met (os : Os) (args : Array Value) : laidMetH Tryd.prog laidL ((World.doorLaid Tryd.prog 14 os).forCall (fun _ _ => 0) ⟨#[], args, []⟩).memory :=
  laidMetH_of_parts3 (fuel := 8) (laidMet_of_run' 8 (by kernel_rfl) (by kernel_rfl)) (by kernel_rfl) (by kernel_rfl)
theorem tTab : (Tryd.prog.globals[0]?).map (·.type) = some 117 := by kernel_rfl
theorem tab_of_laid {W : World} (h : laidMetH Tryd.prog laidL W) : Go.Proofs.YtjgdpcblenahkaaDoorQ.TabG W := by
  rw [MakeChecks.laidMetH_plain _ _ _ (by kernel_rfl)] at h
  have h2 : laidMet Tryd.prog (("math/bits.deBruijn64tab", Lib.tabData .u8 Go.Proofs.YtjgdpcblenahkaaDoorQ.deTab) :: []) W := h
  exact Go.Proofs.YtjgdpcblenahkaaDoorQ.TabG.of_tab (Lib.tabIs_of_head Go.Proofs.YtjgdpcblenahkaaDoorQ.gTab tTab Tryd.underlying117 Tryd.underlying5 (by kernel_rfl) (by kernel_rfl) h2)
end Go.Proofs.YtjgdpcblenahkaaDoor
