import Derived.Test.YtfjemaeidmikmaaDoorFM2
import Derived.Test.YtfjemaeidmikmaaDoorFFs1
set_option linter.unusedVariables false
set_option linter.unusedSimpArgs false
namespace Go.Proofs.YtfjemaeidmikmaaDoorQ
open Go.RowKit Go.Proofs.Bs Go.Proofs.YtfjemaeidmikmaaDoor Go.Proofs.YtfjemaeidmikmaaDoorW.PrintWords
def tattingref07_Size.f (l0 : List NdI) (a1 : Int) : Option Int := if l0.length ≤ 1000000 ∧ ndsWf l0 = true ∧ rightB (l0.map ndOf) = true ∧ 0 ≤ a1 ∧ a1 < l0.length then some (attr fSize (l0.map ndOf) a1.toNat) else none
theorem tattingref07_Size.calls (A0 : Option Addr) (c0 : Nat) (l0 : List NdI) (a1 : Int) (r : Int) (w : World) (hr0 : Kd.C k71 w A0 l0.length l0) (hc0 : l0.length ≤ c0) (h : tattingref07_Size.f l0 a1 = some r) :
    Calls Tryd.prog 14 #[.slice A0 l0.length c0, .int .i64 a1] w fun e w' => e = .returned (.int .i64 r) ∧ Below w.heap.size w w' := by
  unfold tattingref07_Size.f at h;split at h
  case isFalse => cases h
  case isTrue c =>
    obtain ⟨h0, h1, h2, h3, h4⟩ := c;injection h with h;subst h;have hw := rsize_any A0 l0.length c0 (l0.map ndOf) h0 h2 a1.toNat w (reads_nds hr0 h1) (by omega);rw [Int.toNat_of_nonneg h3] at hw;exact hw
end Go.Proofs.YtfjemaeidmikmaaDoorQ
