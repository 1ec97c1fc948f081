/- Pruned from its seat's text: what the theorem hangs on. -/
import Derived.Test.YtibabfgfahlekaaHM3
import Derived.Test.YtibabfgfahlekaaHFs2
/- facts.Size: told as the printed texts are. -/
set_option linter.unusedVariables false
set_option linter.unusedSimpArgs false
namespace Go.Proofs.YtibabfgfahlekaaQ
open Go.RowKit Go.Proofs.Bs Go.Proofs.Ytibabfgfahlekaa Go.Proofs.YtibabfgfahlekaaW.PrintWords
def sizeN (l : List Nd) : Int := if rightB l = true then (aStack fSize l l.length).getD 0 0 else -1
theorem sizeN_yes {l : List Nd} (h : rightB l = true) : sizeN l = attr fSize l (l.length - 1) := by
  unfold sizeN
  rw [if_pos h, aStack_end fSize l h]
  rfl
def facts_Size.f (l0 : List NdI) : Option Int := if l0.length ≤ 1000000 ∧ ndsWf l0 = true then some (sizeN (l0.map ndOf)) else none
theorem facts_Size.calls (A0 : Option Addr) (c0 : Nat) (l0 : List NdI) (r : Int) (w : World) (hr0 : Kd.C k63 w A0 l0.length l0) (hc0 : l0.length ≤ c0) (h : facts_Size.f l0 = some r) :
    Calls Try.prog 12 #[.slice A0 l0.length c0] w fun e w' => e = .returned (.int .i64 r) ∧ Below w.heap.size w w' := by
  unfold facts_Size.f at h
  split at h
  case isFalse => cases h
  case isTrue c =>
    injection h with h
    subst h
    have hR := reads_nds hr0 c.2
    cases hr : rightB (l0.map ndOf) with
    | true =>
      have := fsize_yes A0 l0.length c0 (l0.map ndOf) w hR c.1 hr
      rw [sizeN_yes hr, List.length_map]
      exact this
    | false =>
      have := fsize_no A0 l0.length c0 (l0.map ndOf) w hR c.1 hr
      unfold sizeN
      rw [hr, if_neg Bool.false_ne_true]
      exact this
end Go.Proofs.YtibabfgfahlekaaQ
