/- Pruned from its seat's text: what the theorem hangs on. -/
import Derived.Test.YtibabfgfahlekaaBEvPure
import Derived.Test.YtibabfgfahlekaaBQXFactsSize
import Derived.Test.YtibabfgfahlekaaBQNd
import Derived.Test.YtibabfgfahlekaaBTree6
import Derived.Test.YtibabfgfahlekaaBBase
import Derived.Test.YtibabfgfahlekaaBFsPure
import Derived.Deep.RegionHeld3
import Derived.Test.YtibabfgfahlekaaBQXFactsOf
import Derived.Test.YtibabfgfahlekaaBQ0
import Derived.Test.YtibabfgfahlekaaBQTattinglaw07Awake
/- FactsSizes comes to true: plain. -/
set_option linter.unusedVariables false
set_option linter.unusedSimpArgs false
namespace Go.Proofs.YtibabfgfahlekaaQ
open Go.RowKit Go.Proofs.YtibabfgfahlekaaW.PrintWords Go.Proofs.YtibabfgfahlekaaW.PrintLast Go.Proofs.Bs Go.Proofs.Ytibabfgfahlekaa

theorem awake7_eq : tattinglaw07_awake.f = some true := by decide +kernel
theorem take_nds {l : List NdI} (h : ndsWf l = true) (m : Nat) : ndsWf (l.take m) = true := by
  unfold ndsWf at *
  rw [List.all_eq_true] at *
  exact fun x hx => h x (List.take_subset _ _ hx)
end Go.Proofs.YtibabfgfahlekaaQ
namespace Go.Proofs.Ytibabfgfahlekaa
open Go.RowKit Go.Proofs.YtibabfgfahlekaaQ Go.Proofs.YtibabfgfahlekaaW.PrintWords
end Go.Proofs.Ytibabfgfahlekaa
