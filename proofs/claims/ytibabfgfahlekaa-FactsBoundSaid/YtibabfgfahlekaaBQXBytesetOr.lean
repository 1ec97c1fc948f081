/- Pruned from its seat's text: what the theorem hangs on. -/
import Derived.Test.YtibabfgfahlekaaBQSets
import Derived.Test.YtibabfgfahlekaaBCore
import Derived.Laws.BitsAllLaws
import Derived.Deep.RegionWith
/- byteset.Or: walked; told as the printed texts are. -/
set_option linter.unusedVariables false
set_option linter.unusedSimpArgs false
namespace Go.Proofs.YtibabfgfahlekaaQ
open Go.RowKit Go.Proofs.Bs Go.Proofs.Ytibabfgfahlekaa

theorem or1_any (x y : Nat) (w : World) (hx : x < W) (hy : y < W) : Calls Try.prog 69 #[.int .u64 x, .int .u64 y] w fun e w' => e = .returned (.int .u64 (x ||| y : Nat)) ∧ w = w' := by
  go_enter Try.func69, Try.ntmps69
  go_wp2
  go_ret
  exact ⟨ret_int (u64_or_nat x y hx hy), rfl⟩

def orTo (s t : S) (i : Nat) : S := ⟨if 0 < i then s.a ||| t.a else s.a, if 1 < i then s.b ||| t.b else s.b, if 2 < i then s.c ||| t.c else s.c, if 3 < i then s.d ||| t.d else s.d⟩

def four (s : S) : Int × Int × Int × Int := (s.a, s.b, s.c, s.d)
end Go.Proofs.YtibabfgfahlekaaQ
