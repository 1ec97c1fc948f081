import Derived.Test.YtfjemaeidmikmaaDoorBQXSubsetBuild
import Derived.Test.YtfjemaeidmikmaaDoorBQXSubsetCount
import Derived.Test.YtfjemaeidmikmaaDoorBQTattinglaw11Awake
set_option linter.unusedVariables false
namespace Go.Proofs.YtfjemaeidmikmaaDoorQ
open Go.RowKit Go.Proofs.YtfjemaeidmikmaaDoorW.PrintWords Go.Proofs.YtfjemaeidmikmaaDoorW.PrintLast Go.Proofs.YtfjemaeidmikmaaDoor
theorem awake11 : tattinglaw11_awake.f = some true := by decide +kernel
end Go.Proofs.YtfjemaeidmikmaaDoorQ
