/- Pruned from its seat's text: what the theorem hangs on. -/
import Derived.Test.YtjgdpcblenahkaaDoorCNwPure
import Derived.Test.YtjgdpcblenahkaaDoorCCore
import Derived.OneCell
import Derived.Lib.Hide
/- nfa.walk: walked; told as the printed texts are. -/
set_option linter.unusedVariables false
set_option linter.unusedSimpArgs false
namespace Go.Proofs.YtjgdpcblenahkaaDoorQ
open Go.RowKit Go.Proofs.YtjgdpcblenahkaaDoor

/-- Blocks of other types than those that the walk writes. -/
def WKeep (w w' : World) : Prop := ∀ (b : Nat) (cs : Array Value) (t : TypeId) (fr : Nat × Nat), w.heap[b]? = some (.cells cs t fr) → 4 ≠ t → 3 ≠ t → 46 ≠ t → w'.heap[b]? = some (.cells cs t fr)
theorem WKeep.refl (w : World) : WKeep w w := fun _ _ _ _ h _ _ _ => h
theorem WKeep.trans {w w1 w2 : World} (h : WKeep w w1) (k : WKeep w1 w2) : WKeep w w2 := fun b cs t fr hb h1 h2 h3 => k b cs t fr (h b cs t fr hb h1 h2 h3) h1 h2 h3

end Go.Proofs.YtjgdpcblenahkaaDoorQ
